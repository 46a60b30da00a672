/- Zag, GetSigned; the readers. -/
import Derived.Test.YtlcglefbhlhcpaaKg
import Derived.Test.YtlcglefbhlhcpaaGeQ
namespace Go.Proofs.Ytlcglefbhlhcpaa.K
open Go.RowKit
set_option linter.unusedVariables false
set_option maxRecDepth 100000
set_option maxHeartbeats 400000

section
variable {w0 : World} {A : Option Addr} {c : Nat} {b : List Nat} {at_ : Int}

theorem zag_even {n : Nat} (hn : n ≤ 18446744073709551615) (h : n % 2 = 0) : Calls Try.prog 123 [.int .u64 (n : Int)].toArray w0 (fun r w' => r = .returned (.int .i64 (zag n)) ∧ Bel w0 w') := by
  have S := St.nil [] w0
  refine fn_start Try.func123 rfl 11 rfl rfl [(0, _)] ⟨rfl, trivial⟩ ?_; intro a E
  refine wp_seq ?_
  refine region_plain (n := 1) [(0, .p)] rfl rfl ?_
  refine Run.assign rfl E rfl rfl rfl ?_; clear E a; intro a E
  refine Run.nil ?_
  refine then_n ?_
  refine wp_seq ?_
  refine region_plain (n := 9) [(0, .p), (1, .p), (2, .p), (3, .p), (4, .p), (5, .p), (6, .p), (7, .p), (8, .p)] rfl rfl ?_
  refine Run.move rfl E rfl rfl rfl ?_; clear E a; intro a E
  refine Run.shr (n := 1) rfl E rfl rfl rfl rfl (by kernel_rfl) (q := ((n / 2 : Nat) : Int)) (fdiv_pow n 1) ?_; clear E a; intro a E
  refine Run.conv rfl E rfl rfl rfl Try.underlying145 Try.underlying3 (i64_ok (by omega)) ?_; clear E a; intro a E
  refine Run.move rfl E rfl rfl rfl ?_; clear E a; intro a E
  refine Run.and rfl E rfl rfl rfl rfl (q := 0) ((u64_and_mask n 1 (by omega) (by decide)).trans (by show ((n % 2 : Nat) : Int) = _; rw [h]; rfl)) ?_; clear E a; intro a E
  refine Run.conv rfl E rfl rfl rfl Try.underlying145 Try.underlying3 (i64_ok (by omega)) ?_; clear E a; intro a E
  refine Run.neg rfl E rfl rfl rfl (q := 0) (by kernel_rfl) ?_; clear E a; intro a E
  refine Run.xor rfl E rfl rfl rfl rfl (q := ((n / 2 : Nat) : Int)) (i64_xor_zero _ (by omega)) ?_; clear E a; intro a E
  refine Run.assign rfl E rfl rfl rfl ?_; clear E a; intro a E
  refine Run.nil ?_
  refine then_n ?_
  refine wp_ret ?_
  exact ret1 E Try.results123 rfl ⟨by unfold zag; rw [if_pos h], S.belT⟩

theorem zag_odd {n : Nat} (hn : n ≤ 18446744073709551615) (h : n % 2 = 1) : Calls Try.prog 123 [.int .u64 (n : Int)].toArray w0 (fun r w' => r = .returned (.int .i64 (zag n)) ∧ Bel w0 w') := by
  have S := St.nil [] w0
  refine fn_start Try.func123 rfl 11 rfl rfl [(0, _)] ⟨rfl, trivial⟩ ?_; intro a E
  refine wp_seq ?_
  refine region_plain (n := 1) [(0, .p)] rfl rfl ?_
  refine Run.assign rfl E rfl rfl rfl ?_; clear E a; intro a E
  refine Run.nil ?_
  refine then_n ?_
  refine wp_seq ?_
  refine region_plain (n := 9) [(0, .p), (1, .p), (2, .p), (3, .p), (4, .p), (5, .p), (6, .p), (7, .p), (8, .p)] rfl rfl ?_
  refine Run.move rfl E rfl rfl rfl ?_; clear E a; intro a E
  refine Run.shr (n := 1) rfl E rfl rfl rfl rfl (by kernel_rfl) (q := ((n / 2 : Nat) : Int)) (fdiv_pow n 1) ?_; clear E a; intro a E
  refine Run.conv rfl E rfl rfl rfl Try.underlying145 Try.underlying3 (i64_ok (by omega)) ?_; clear E a; intro a E
  refine Run.move rfl E rfl rfl rfl ?_; clear E a; intro a E
  refine Run.and rfl E rfl rfl rfl rfl (q := 1) ((u64_and_mask n 1 (by omega) (by decide)).trans (by show ((n % 2 : Nat) : Int) = _; rw [h]; rfl)) ?_; clear E a; intro a E
  refine Run.conv rfl E rfl rfl rfl Try.underlying145 Try.underlying3 (i64_ok (by omega)) ?_; clear E a; intro a E
  refine Run.neg rfl E rfl rfl rfl (q := -1) (by kernel_rfl) ?_; clear E a; intro a E
  refine Run.xor rfl E rfl rfl rfl rfl (q := (-((n / 2 : Nat) : Int) - 1)) (i64_xor_ones _ (by omega)) ?_; clear E a; intro a E
  refine Run.assign rfl E rfl rfl rfl ?_; clear E a; intro a E
  refine Run.nil ?_
  refine then_n ?_
  refine wp_ret ?_
  exact ret1 E Try.results123 rfl ⟨by unfold zag; rw [if_neg (by omega)], S.belT⟩

theorem zag_walk {n : Nat} (hn : n ≤ 18446744073709551615) : Calls Try.prog 123 [.int .u64 (n : Int)].toArray w0 (fun r w' => r = .returned (.int .i64 (zag n)) ∧ Bel w0 w') := by
  rcases Nat.mod_two_eq_zero_or_one n with h | h
  · exact zag_even hn h
  · exact zag_odd hn h

theorem gets_walk (H1 : Rd w0 A b.length 1 (u8s b)) (hb8 : ∀ x ∈ b, x < 256) (hl : b.length ≤ 140737488355328) : Calls Try.prog 117 [.slice A b.length c, .int .i64 at_].toArray w0 (fun r w' => r = .returned (.tuple #[.int .i64 (zag (getV b at_).1), .int .i64 ((getV b at_).2.1 : Int), .int .i64 ((getV b at_).2.2 : Int)]) ∧ Bel w0 w') := by
  have S := St.nil [] w0
  refine fn_start Try.func117 rfl 21 rfl rfl [(0, _), (1, _)] ⟨rfl, rfl, trivial⟩ ?_; intro a E
  refine wp_seq ?_
  refine region_plain (n := 3) [(0, .p), (1, .p), (2, .p)] rfl rfl ?_
  refine Run.assign rfl E rfl rfl rfl ?_; clear E a; intro a E
  refine Run.assign rfl E rfl rfl rfl ?_; clear E a; intro a E
  refine Run.assign rfl E rfl rfl rfl ?_; clear E a; intro a E
  refine Run.nil ?_
  refine then_n ?_
  refine wp_seq ?_
  refine region_plain (n := 10) [(0, .p), (1, .p), (2, .e), (3, .p), (4, .p), (5, .p), (6, .p), (7, .p), (8, .p), (9, .p)] rfl rfl ?_
  refine Run.move rfl E rfl rfl rfl ?_; clear E a; intro a E
  refine Run.move rfl E rfl rfl rfl ?_; clear E a; intro a E
  refine Run.call (args := [.slice A b.length c, .int .i64 at_]) rfl rfl E rfl rfl Try.func112 nm112 rfl rfl (get_walk (at_ := at_) (H1.bel S.belT) hb8 hl) ?_; rintro e_ w ⟨rfl, B_⟩; refine ⟨_, rfl, fun _ => B_, ?_⟩; clear E a; replace S := S.bel B_; intro a E
  clear B_
  refine Run.move rfl E rfl rfl rfl ?_; clear E a; intro a E
  refine Run.extract rfl E rfl rfl rfl rfl ?_; clear E a; intro a E
  refine Run.extract rfl E rfl rfl rfl rfl ?_; clear E a; intro a E
  refine Run.extract rfl E rfl rfl rfl rfl ?_; clear E a; intro a E
  refine Run.assign rfl E rfl rfl rfl ?_; clear E a; intro a E
  refine Run.assign rfl E rfl rfl rfl ?_; clear E a; intro a E
  refine Run.assign rfl E rfl rfl rfl ?_; clear E a; intro a E
  refine Run.nil ?_
  refine then_n ?_
  refine wp_seq ?_
  refine region_plain (n := 7) [(0, .p), (1, .e), (2, .p), (3, .p), (4, .p), (5, .p), (6, .p)] rfl rfl ?_
  refine Run.move rfl E rfl rfl rfl ?_; clear E a; intro a E
  refine Run.call (args := [.int .u64 ((getV b at_).1 : Int)]) rfl rfl E rfl rfl Try.func123 nm123 rfl rfl (zag_walk (n := (getV b at_).1) (getV_le b at_)) ?_; rintro e_ w ⟨rfl, B_⟩; refine ⟨_, rfl, fun _ => B_, ?_⟩; clear E a; replace S := S.bel B_; intro a E
  clear B_
  refine Run.move rfl E rfl rfl rfl ?_; clear E a; intro a E
  refine Run.move rfl E rfl rfl rfl ?_; clear E a; intro a E
  refine Run.assign rfl E rfl rfl rfl ?_; clear E a; intro a E
  refine Run.assign rfl E rfl rfl rfl ?_; clear E a; intro a E
  refine Run.assign rfl E rfl rfl rfl ?_; clear E a; intro a E
  refine Run.nil ?_
  refine then_n ?_
  refine wp_ret ?_
  exact retN E (vs := [.int .i64 (zag (getV b at_).1), .int .i64 ((getV b at_).2.1 : Int), .int .i64 ((getV b at_).2.2 : Int)]) Try.results117 (.tmp (E.slot _ _ rfl) (.tmp (E.slot _ _ rfl) (.tmp (E.slot _ _ rfl) .nil))) rfl ⟨rfl, S.belT⟩

theorem number_walk {r e : Nat} (H : Own w0 [.obj r 152 [.slice A b.length c, .int .i64 at_, .int .i64 (e : Int)]]) (H1 : Rd w0 A b.length 1 (u8s b)) (hb8 : ∀ x ∈ b, x < 256) (hl : b.length ≤ 140737488355328) (hAr : 0 < b.length → ∀ b_ o, A = some ⟨b_, o, none⟩ → b_ ∉ [r]) {most : Int} (hm0 : 0 ≤ most) (hm1 : most ≤ 9223372036854775807) : Calls Try.prog 104 [.pointer (some ⟨r, 0, none⟩), .int .i64 most].toArray w0 (fun r_ w' => r_ = .returned (.int .i64 (numR b at_ e most).2.2) ∧ St [r] w0 w' [.obj r 152 [.slice A b.length c, .int .i64 (numR b at_ e most).1, .int .i64 (((numR b at_ e most).2.1 : Nat) : Int)]]) := by
  have S : St [r] _ _ _ := H.st
  refine fn_start Try.func104 rfl 50 rfl rfl [(0, _), (1, _)] ⟨rfl, rfl, trivial⟩ ?_; intro a E
  refine wp_seq ?_
  refine region_plain (n := 1) [(0, .p)] rfl rfl ?_
  refine Run.assign rfl E rfl rfl rfl ?_; clear E a; intro a E
  refine Run.nil ?_
  refine then_n ?_
  refine wp_seq ?_
  refine wp_seq ?_
  refine region_plain (n := 5) [(0, .p), (1, .p), (2, .p), (3, .l), (4, .p)] rfl rfl ?_
  refine Run.move rfl E rfl rfl rfl ?_; clear E a; intro a E
  refine Run.nilCheck rfl E rfl rfl rfl ?_; clear E a; intro a E
  refine Run.fieldAddr rfl E rfl rfl rfl fo152_2 (rfl) ?_; clear E a; intro a E
  refine Run.load1 rfl rfl E S rfl rfl rfl one25 (fun _ s => s.objCell 0 2 rfl rfl) ?_; clear E a; intro a E
  by_cases he : e ≠ 0
  · skip
    refine Run.nei rfl E rfl rfl rfl rfl (decide_eq_true (by omega)) ?_; clear E a; intro a E
    refine Run.nil ?_
    refine then_n ?_
    refine cond_T E rfl ?_
    refine wp_seq ?_
    refine region_plain (n := 1) [(0, .p)] rfl rfl ?_
    refine Run.assign rfl E rfl rfl rfl ?_; clear E a; intro a E
    refine Run.nil ?_
    refine then_n ?_
    refine wp_ret ?_
    refine then_r ?_
    have hs : numR b at_ e most = (at_, e, 0) := by unfold numR; rw [if_pos (by omega)]
    rw [hs]; exact ret1 E Try.results104 rfl ⟨rfl, S⟩
  · skip
    have hgl := getV_le b at_
    refine Run.nei rfl E rfl rfl rfl rfl (decide_eq_false (by omega)) ?_; clear E a; intro a E
    refine Run.nil ?_
    refine then_n ?_
    refine cond_F E rfl ?_
    refine wp_skip ?_
    refine then_n ?_
    refine wp_seq ?_
    refine region_drawS (n := 16) [(0, .p), (1, .p), (2, .p), (4, .p), (5, .p), (6, .p), (3, .t), (7, .t), (8, .e), (9, .p), (10, .p), (11, .p), (12, .p), (13, .p), (14, .p), (15, .p)] [0, 1, 3, 7, 0, 16, 48, 112, 255, 511, 1023, 1023, 1023, 2047, 12287, 32767] S mixed rfl rfl (by kernel_rfl) (fun _ _ _ _ _ h => h) ?_; clear S; intro w S B_; clear B_
    refine Run.move rfl E rfl rfl rfl ?_; clear E a; intro a E
    refine Run.nilCheck rfl E rfl rfl rfl ?_; clear E a; intro a E
    refine Run.fieldAddr rfl E rfl rfl rfl fo152_0 (rfl) ?_; clear E a; intro a E
    refine Run.move rfl E rfl rfl rfl ?_; clear E a; intro a E
    refine Run.nilCheck rfl E rfl rfl rfl ?_; clear E a; intro a E
    refine Run.fieldAddr rfl E rfl rfl rfl fo152_1 (rfl) ?_; clear E a; intro a E
    refine Run.load1 rfl rfl E S rfl rfl rfl one22 (fun _ s => s.objCell 0 0 rfl rfl) ?_; clear E a; intro a E
    refine Run.load1 rfl rfl E S rfl rfl rfl one3 (fun _ s => s.objCell 0 1 rfl rfl) ?_; clear E a; intro a E
    refine Run.call (args := [.slice A b.length c, .int .i64 at_]) rfl rfl E rfl rfl Try.func112 nm112 rfl rfl (get_walk (at_ := at_) (H1.chg S.chg hAr) hb8 hl) ?_; rintro e_ w ⟨rfl, B_⟩; refine ⟨_, rfl, fun _ => B_, ?_⟩; clear E a; replace S := S.bel B_; intro a E
    clear B_
    refine Run.move rfl E rfl rfl rfl ?_; clear E a; intro a E
    refine Run.extract rfl E rfl rfl rfl rfl ?_; clear E a; intro a E
    refine Run.extract rfl E rfl rfl rfl rfl ?_; clear E a; intro a E
    refine Run.extract rfl E rfl rfl rfl rfl ?_; clear E a; intro a E
    refine Run.assign rfl E rfl rfl rfl ?_; clear E a; intro a E
    refine Run.assign rfl E rfl rfl rfl ?_; clear E a; intro a E
    refine Run.assign rfl E rfl rfl rfl ?_; clear E a; intro a E
    refine Run.nil ?_
    refine then_n ?_
    refine wp_seq ?_
    refine wp_seq ?_
    refine region_plain (n := 8) [(0, .p), (1, .p), (2, .p), (3, .p), (4, .p), (5, .p), (6, .p), (7, .p)] rfl rfl ?_
    refine Run.move rfl E rfl rfl rfl ?_; clear E a; intro a E
    by_cases hg : (getV b at_).2.2 = 0
    · skip
      refine Run.eqi rfl E rfl rfl rfl rfl (decide_eq_true (by omega)) ?_; clear E a; intro a E
      refine Run.move rfl E rfl rfl rfl ?_; clear E a; intro a E
      refine Run.move rfl E rfl rfl rfl ?_; clear E a; intro a E
      refine Run.move rfl E rfl rfl rfl ?_; clear E a; intro a E
      refine Run.conv rfl E rfl rfl rfl Try.underlying3 Try.underlying145 (u64_ok (by omega)) ?_; clear E a; intro a E
      by_cases hm : most < ((getV b at_).1 : Int)
      · skip
        refine Run.gtr rfl E rfl rfl rfl rfl (decide_eq_true (by omega)) ?_; clear E a; intro a E
        refine Run.pickT rfl E rfl rfl rfl rfl ?_; clear E a; intro a E
        refine Run.nil ?_
        refine then_n ?_
        refine cond_T E rfl ?_
        refine region_plain (n := 1) [(0, .p)] rfl rfl ?_
        refine Run.assign rfl E rfl rfl rfl ?_; clear E a; intro a E
        refine Run.nil ?_
        refine then_n ?_
        refine wp_seq ?_
        refine wp_seq ?_
        refine region_plain (n := 5) [(0, .p), (1, .p), (2, .p), (3, .p), (4, .l)] rfl rfl ?_
        refine Run.move rfl E rfl rfl rfl ?_; clear E a; intro a E
        refine Run.move rfl E rfl rfl rfl ?_; clear E a; intro a E
        refine Run.nilCheck rfl E rfl rfl rfl ?_; clear E a; intro a E
        refine Run.fieldAddr rfl E rfl rfl rfl fo152_2 (rfl) ?_; clear E a; intro a E
        refine Run.store (news := [.int .i64 11]) (cs' := [_, _, _]) (hp' := [_]) 0 rfl E S rfl rfl rfl rfl rfl sz25 rfl rfl rfl rfl ?_; clear S; intro w S
        refine Run.nil ?_
        refine then_n ?_
        refine wp_seq ?_
        refine region_plain (n := 2) [(0, .p), (1, .p)] rfl rfl ?_
        refine Run.move rfl E rfl rfl rfl ?_; clear E a; intro a E
        refine Run.nei rfl E rfl rfl rfl rfl (b := true) (by decide) ?_; clear E a; intro a E
        refine Run.nil ?_
        refine then_n ?_
        refine cond_T E rfl ?_
        refine wp_seq ?_
        refine region_plain (n := 1) [(0, .p)] rfl rfl ?_
        refine Run.assign rfl E rfl rfl rfl ?_; clear E a; intro a E
        refine Run.nil ?_
        refine then_n ?_
        refine wp_ret ?_
        refine then_r ?_
        have hs : numR b at_ e most = (at_, 11, 0) := by unfold numR; rw [if_neg (by omega), if_neg (by omega), if_pos (by omega)]
        rw [hs]; exact ret1 E Try.results104 rfl ⟨rfl, S⟩
      · skip
        have hgm := getV_many hg
        refine Run.gtr rfl E rfl rfl rfl rfl (decide_eq_false (by omega)) ?_; clear E a; intro a E
        refine Run.pickT rfl E rfl rfl rfl rfl ?_; clear E a; intro a E
        refine Run.nil ?_
        refine then_n ?_
        refine cond_F E rfl ?_
        refine wp_skip ?_
        refine then_n ?_
        refine wp_seq ?_
        refine wp_seq ?_
        refine region_plain (n := 5) [(0, .p), (1, .p), (2, .p), (3, .p), (4, .l)] rfl rfl ?_
        refine Run.move rfl E rfl rfl rfl ?_; clear E a; intro a E
        refine Run.move rfl E rfl rfl rfl ?_; clear E a; intro a E
        refine Run.nilCheck rfl E rfl rfl rfl ?_; clear E a; intro a E
        refine Run.fieldAddr rfl E rfl rfl rfl fo152_2 (rfl) ?_; clear E a; intro a E
        refine Run.store (news := [.int .i64 ((getV b at_).2.2 : Int)]) (cs' := [_, _, _]) (hp' := [_]) 0 rfl E S rfl rfl rfl rfl rfl sz25 rfl rfl rfl rfl ?_; clear S; intro w S
        refine Run.nil ?_
        refine then_n ?_
        refine wp_seq ?_
        refine region_plain (n := 2) [(0, .p), (1, .p)] rfl rfl ?_
        refine Run.move rfl E rfl rfl rfl ?_; clear E a; intro a E
        refine Run.nei rfl E rfl rfl rfl rfl (decide_eq_false (by omega)) ?_; clear E a; intro a E
        refine Run.nil ?_
        refine then_n ?_
        refine cond_F E rfl ?_
        refine wp_skip ?_
        refine then_n ?_
        refine wp_seq ?_
        refine region_plain (n := 9) [(0, .p), (1, .p), (2, .p), (3, .l), (4, .p), (5, .p), (6, .p), (7, .p), (8, .l)] rfl rfl ?_
        refine Run.move rfl E rfl rfl rfl ?_; clear E a; intro a E
        refine Run.nilCheck rfl E rfl rfl rfl ?_; clear E a; intro a E
        refine Run.fieldAddr rfl E rfl rfl rfl fo152_1 (rfl) ?_; clear E a; intro a E
        refine Run.load1 rfl rfl E S rfl rfl rfl one3 (fun _ s => s.objCell 0 1 rfl rfl) ?_; clear E a; intro a E
        refine Run.move rfl E rfl rfl rfl ?_; clear E a; intro a E
        refine Run.add rfl E rfl rfl rfl rfl (i64_ok (by omega)) ?_; clear E a; intro a E
        refine Run.nilCheck rfl E rfl rfl rfl ?_; clear E a; intro a E
        refine Run.fieldAddr rfl E rfl rfl rfl fo152_1 (rfl) ?_; clear E a; intro a E
        refine Run.store (news := [.int .i64 (at_ + ((getV b at_).2.1 : Int))]) (cs' := [_, _, _]) (hp' := [_]) 0 rfl E S rfl rfl rfl rfl rfl sz3 rfl rfl rfl rfl ?_; clear S; intro w S
        refine Run.nil ?_
        refine then_n ?_
        refine wp_seq ?_
        refine region_plain (n := 3) [(0, .p), (1, .p), (2, .p)] rfl rfl ?_
        refine Run.move rfl E rfl rfl rfl ?_; clear E a; intro a E
        refine Run.conv rfl E rfl rfl rfl Try.underlying145 Try.underlying3 (i64_ok (by omega)) ?_; clear E a; intro a E
        refine Run.assign rfl E rfl rfl rfl ?_; clear E a; intro a E
        refine Run.nil ?_
        refine then_n ?_
        refine wp_ret ?_
        have hs : numR b at_ e most = (at_ + ((getV b at_).2.1 : Int), (getV b at_).2.2, ((getV b at_).1 : Int)) := by unfold numR; rw [if_neg (by omega), if_neg (by omega), if_neg (by omega), hg]
        rw [hs]; exact ret1 E Try.results104 rfl ⟨rfl, S⟩
    · skip
      refine Run.eqi rfl E rfl rfl rfl rfl (decide_eq_false (by omega)) ?_; clear E a; intro a E
      refine Run.move rfl E rfl rfl rfl ?_; clear E a; intro a E
      refine Run.off rfl E rfl rfl ?_; clear E a; intro a E
      refine Run.off rfl E rfl rfl ?_; clear E a; intro a E
      refine Run.off rfl E rfl rfl ?_; clear E a; intro a E
      refine Run.off rfl E rfl rfl ?_; clear E a; intro a E
      refine Run.pickF rfl E rfl rfl rfl rfl ?_; clear E a; intro a E
      refine Run.nil ?_
      refine then_n ?_
      refine cond_F E rfl ?_
      refine wp_skip ?_
      refine then_n ?_
      refine wp_seq ?_
      refine wp_seq ?_
      refine region_plain (n := 5) [(0, .p), (1, .p), (2, .p), (3, .p), (4, .l)] rfl rfl ?_
      refine Run.move rfl E rfl rfl rfl ?_; clear E a; intro a E
      refine Run.move rfl E rfl rfl rfl ?_; clear E a; intro a E
      refine Run.nilCheck rfl E rfl rfl rfl ?_; clear E a; intro a E
      refine Run.fieldAddr rfl E rfl rfl rfl fo152_2 (rfl) ?_; clear E a; intro a E
      refine Run.store (news := [.int .i64 ((getV b at_).2.2 : Int)]) (cs' := [_, _, _]) (hp' := [_]) 0 rfl E S rfl rfl rfl rfl rfl sz25 rfl rfl rfl rfl ?_; clear S; intro w S
      refine Run.nil ?_
      refine then_n ?_
      refine wp_seq ?_
      refine region_plain (n := 2) [(0, .p), (1, .p)] rfl rfl ?_
      refine Run.move rfl E rfl rfl rfl ?_; clear E a; intro a E
      refine Run.nei rfl E rfl rfl rfl rfl (decide_eq_true (by omega)) ?_; clear E a; intro a E
      refine Run.nil ?_
      refine then_n ?_
      refine cond_T E rfl ?_
      refine wp_seq ?_
      refine region_plain (n := 1) [(0, .p)] rfl rfl ?_
      refine Run.assign rfl E rfl rfl rfl ?_; clear E a; intro a E
      refine Run.nil ?_
      refine then_n ?_
      refine wp_ret ?_
      refine then_r ?_
      have hs : numR b at_ e most = (at_, (getV b at_).2.2, 0) := by unfold numR; rw [if_neg (by omega), if_pos (by omega)]
      rw [hs]; exact ret1 E Try.results104 rfl ⟨rfl, S⟩

theorem more_walk {r e : Nat} (H : Own w0 [.obj r 152 [.slice A b.length c, .int .i64 at_, .int .i64 (e : Int)]]) (H1 : Rd w0 A b.length 1 (u8s b)) (hb8 : ∀ x ∈ b, x < 256) (hl : b.length ≤ 140737488355328) (hAr : 0 < b.length → ∀ b_ o, A = some ⟨b_, o, none⟩ → b_ ∉ [r]) {was : Int} (hwas : -9223372036854775808 ≤ was ∧ was ≤ 9223372036854775807) : Calls Try.prog 105 [.pointer (some ⟨r, 0, none⟩), .int .i64 was].toArray w0 (fun r_ w' => r_ = .returned (.int .i64 (IntKind.i64.wrap (was + (morR b at_ e).2.2))) ∧ St [r] w0 w' [.obj r 152 [.slice A b.length c, .int .i64 (morR b at_ e).1, .int .i64 (((morR b at_ e).2.1 : Nat) : Int)]]) := by
  have S : St [r] _ _ _ := H.st
  refine fn_start Try.func105 rfl 51 rfl rfl [(0, _), (1, _)] ⟨rfl, rfl, trivial⟩ ?_; intro a E
  refine wp_seq ?_
  refine region_plain (n := 1) [(0, .p)] rfl rfl ?_
  refine Run.assign rfl E rfl rfl rfl ?_; clear E a; intro a E
  refine Run.nil ?_
  refine then_n ?_
  refine wp_seq ?_
  refine wp_seq ?_
  refine region_plain (n := 5) [(0, .p), (1, .p), (2, .p), (3, .l), (4, .p)] rfl rfl ?_
  refine Run.move rfl E rfl rfl rfl ?_; clear E a; intro a E
  refine Run.nilCheck rfl E rfl rfl rfl ?_; clear E a; intro a E
  refine Run.fieldAddr rfl E rfl rfl rfl fo152_2 (rfl) ?_; clear E a; intro a E
  refine Run.load1 rfl rfl E S rfl rfl rfl one25 (fun _ s => s.objCell 0 2 rfl rfl) ?_; clear E a; intro a E
  by_cases he : e ≠ 0
  · skip
    refine Run.nei rfl E rfl rfl rfl rfl (decide_eq_true (by omega)) ?_; clear E a; intro a E
    refine Run.nil ?_
    refine then_n ?_
    refine cond_T E rfl ?_
    refine wp_seq ?_
    refine region_plain (n := 2) [(0, .p), (1, .p)] rfl rfl ?_
    refine Run.move rfl E rfl rfl rfl ?_; clear E a; intro a E
    refine Run.assign rfl E rfl rfl rfl ?_; clear E a; intro a E
    refine Run.nil ?_
    refine then_n ?_
    refine wp_ret ?_
    refine then_r ?_
    have hs : morR b at_ e = (at_, e, 0) := by unfold morR; rw [if_pos (by omega)]
    rw [hs]; exact ret1 E Try.results105 rfl ⟨by rw [Int.add_zero, i64_ok hwas], S⟩
  · skip
    have hgl := getV_le b at_
    refine Run.nei rfl E rfl rfl rfl rfl (decide_eq_false (by omega)) ?_; clear E a; intro a E
    refine Run.nil ?_
    refine then_n ?_
    refine cond_F E rfl ?_
    refine wp_skip ?_
    refine then_n ?_
    refine wp_seq ?_
    refine region_drawS (n := 16) [(0, .p), (1, .p), (2, .p), (4, .p), (5, .p), (6, .p), (3, .t), (7, .t), (8, .e), (9, .p), (10, .p), (11, .p), (12, .p), (13, .p), (14, .p), (15, .p)] [0, 1, 3, 7, 0, 16, 48, 112, 255, 511, 1023, 1023, 1023, 2047, 12287, 32767] S mixed rfl rfl (by kernel_rfl) (fun _ _ _ _ _ h => h) ?_; clear S; intro w S B_; clear B_
    refine Run.move rfl E rfl rfl rfl ?_; clear E a; intro a E
    refine Run.nilCheck rfl E rfl rfl rfl ?_; clear E a; intro a E
    refine Run.fieldAddr rfl E rfl rfl rfl fo152_0 (rfl) ?_; clear E a; intro a E
    refine Run.move rfl E rfl rfl rfl ?_; clear E a; intro a E
    refine Run.nilCheck rfl E rfl rfl rfl ?_; clear E a; intro a E
    refine Run.fieldAddr rfl E rfl rfl rfl fo152_1 (rfl) ?_; clear E a; intro a E
    refine Run.load1 rfl rfl E S rfl rfl rfl one22 (fun _ s => s.objCell 0 0 rfl rfl) ?_; clear E a; intro a E
    refine Run.load1 rfl rfl E S rfl rfl rfl one3 (fun _ s => s.objCell 0 1 rfl rfl) ?_; clear E a; intro a E
    refine Run.call (args := [.slice A b.length c, .int .i64 at_]) rfl rfl E rfl rfl Try.func117 nm117 rfl rfl (gets_walk (at_ := at_) (H1.chg S.chg hAr) hb8 hl) ?_; rintro e_ w ⟨rfl, B_⟩; refine ⟨_, rfl, fun _ => B_, ?_⟩; clear E a; replace S := S.bel B_; intro a E
    clear B_
    refine Run.move rfl E rfl rfl rfl ?_; clear E a; intro a E
    refine Run.extract rfl E rfl rfl rfl rfl ?_; clear E a; intro a E
    refine Run.extract rfl E rfl rfl rfl rfl ?_; clear E a; intro a E
    refine Run.extract rfl E rfl rfl rfl rfl ?_; clear E a; intro a E
    refine Run.assign rfl E rfl rfl rfl ?_; clear E a; intro a E
    refine Run.assign rfl E rfl rfl rfl ?_; clear E a; intro a E
    refine Run.assign rfl E rfl rfl rfl ?_; clear E a; intro a E
    refine Run.nil ?_
    refine then_n ?_
    refine wp_seq ?_
    refine wp_seq ?_
    refine region_plain (n := 6) [(0, .p), (1, .p), (2, .p), (3, .p), (4, .p), (5, .p)] rfl rfl ?_
    refine Run.move rfl E rfl rfl rfl ?_; clear E a; intro a E
    by_cases hg : (getV b at_).2.2 = 0
    · skip
      refine Run.eqi rfl E rfl rfl rfl rfl (decide_eq_true (by omega)) ?_; clear E a; intro a E
      refine Run.move rfl E rfl rfl rfl ?_; clear E a; intro a E
      refine Run.move rfl E rfl rfl rfl ?_; clear E a; intro a E
      by_cases hz : (getV b at_).1 = 0
      · skip
        refine Run.eqi rfl E rfl rfl rfl rfl (decide_eq_true (zag_zero.2 hz)) ?_; clear E a; intro a E
        refine Run.pickT rfl E rfl rfl rfl rfl ?_; clear E a; intro a E
        refine Run.nil ?_
        refine then_n ?_
        refine cond_T E rfl ?_
        refine region_plain (n := 1) [(0, .p)] rfl rfl ?_
        refine Run.assign rfl E rfl rfl rfl ?_; clear E a; intro a E
        refine Run.nil ?_
        refine then_n ?_
        refine wp_seq ?_
        refine wp_seq ?_
        refine region_plain (n := 5) [(0, .p), (1, .p), (2, .p), (3, .p), (4, .l)] rfl rfl ?_
        refine Run.move rfl E rfl rfl rfl ?_; clear E a; intro a E
        refine Run.move rfl E rfl rfl rfl ?_; clear E a; intro a E
        refine Run.nilCheck rfl E rfl rfl rfl ?_; clear E a; intro a E
        refine Run.fieldAddr rfl E rfl rfl rfl fo152_2 (rfl) ?_; clear E a; intro a E
        refine Run.store (news := [.int .i64 11]) (cs' := [_, _, _]) (hp' := [_]) 0 rfl E S rfl rfl rfl rfl rfl sz25 rfl rfl rfl rfl ?_; clear S; intro w S
        refine Run.nil ?_
        refine then_n ?_
        refine wp_seq ?_
        refine region_plain (n := 2) [(0, .p), (1, .p)] rfl rfl ?_
        refine Run.move rfl E rfl rfl rfl ?_; clear E a; intro a E
        refine Run.nei rfl E rfl rfl rfl rfl (b := true) (by decide) ?_; clear E a; intro a E
        refine Run.nil ?_
        refine then_n ?_
        refine cond_T E rfl ?_
        refine wp_seq ?_
        refine region_plain (n := 2) [(0, .p), (1, .p)] rfl rfl ?_
        refine Run.move rfl E rfl rfl rfl ?_; clear E a; intro a E
        refine Run.assign rfl E rfl rfl rfl ?_; clear E a; intro a E
        refine Run.nil ?_
        refine then_n ?_
        refine wp_ret ?_
        refine then_r ?_
        have hs : morR b at_ e = (at_, 11, 0) := by unfold morR; rw [if_neg (by omega), if_neg (by omega), if_pos (by omega)]
        rw [hs]; exact ret1 E Try.results105 rfl ⟨by rw [Int.add_zero, i64_ok hwas], S⟩
      · skip
        have hgm := getV_many hg
        refine Run.eqi rfl E rfl rfl rfl rfl (decide_eq_false (fun h => hz (zag_zero.1 h))) ?_; clear E a; intro a E
        refine Run.pickT rfl E rfl rfl rfl rfl ?_; clear E a; intro a E
        refine Run.nil ?_
        refine then_n ?_
        refine cond_F E rfl ?_
        refine wp_skip ?_
        refine then_n ?_
        refine wp_seq ?_
        refine wp_seq ?_
        refine region_plain (n := 5) [(0, .p), (1, .p), (2, .p), (3, .p), (4, .l)] rfl rfl ?_
        refine Run.move rfl E rfl rfl rfl ?_; clear E a; intro a E
        refine Run.move rfl E rfl rfl rfl ?_; clear E a; intro a E
        refine Run.nilCheck rfl E rfl rfl rfl ?_; clear E a; intro a E
        refine Run.fieldAddr rfl E rfl rfl rfl fo152_2 (rfl) ?_; clear E a; intro a E
        refine Run.store (news := [.int .i64 ((getV b at_).2.2 : Int)]) (cs' := [_, _, _]) (hp' := [_]) 0 rfl E S rfl rfl rfl rfl rfl sz25 rfl rfl rfl rfl ?_; clear S; intro w S
        refine Run.nil ?_
        refine then_n ?_
        refine wp_seq ?_
        refine region_plain (n := 2) [(0, .p), (1, .p)] rfl rfl ?_
        refine Run.move rfl E rfl rfl rfl ?_; clear E a; intro a E
        refine Run.nei rfl E rfl rfl rfl rfl (decide_eq_false (by omega)) ?_; clear E a; intro a E
        refine Run.nil ?_
        refine then_n ?_
        refine cond_F E rfl ?_
        refine wp_skip ?_
        refine then_n ?_
        refine wp_seq ?_
        refine region_plain (n := 9) [(0, .p), (1, .p), (2, .p), (3, .l), (4, .p), (5, .p), (6, .p), (7, .p), (8, .l)] rfl rfl ?_
        refine Run.move rfl E rfl rfl rfl ?_; clear E a; intro a E
        refine Run.nilCheck rfl E rfl rfl rfl ?_; clear E a; intro a E
        refine Run.fieldAddr rfl E rfl rfl rfl fo152_1 (rfl) ?_; clear E a; intro a E
        refine Run.load1 rfl rfl E S rfl rfl rfl one3 (fun _ s => s.objCell 0 1 rfl rfl) ?_; clear E a; intro a E
        refine Run.move rfl E rfl rfl rfl ?_; clear E a; intro a E
        refine Run.add rfl E rfl rfl rfl rfl (i64_ok (by omega)) ?_; clear E a; intro a E
        refine Run.nilCheck rfl E rfl rfl rfl ?_; clear E a; intro a E
        refine Run.fieldAddr rfl E rfl rfl rfl fo152_1 (rfl) ?_; clear E a; intro a E
        refine Run.store (news := [.int .i64 (at_ + ((getV b at_).2.1 : Int))]) (cs' := [_, _, _]) (hp' := [_]) 0 rfl E S rfl rfl rfl rfl rfl sz3 rfl rfl rfl rfl ?_; clear S; intro w S
        refine Run.nil ?_
        refine then_n ?_
        refine wp_seq ?_
        refine region_plain (n := 4) [(0, .p), (1, .p), (2, .p), (3, .p)] rfl rfl ?_
        refine Run.move rfl E rfl rfl rfl ?_; clear E a; intro a E
        refine Run.move rfl E rfl rfl rfl ?_; clear E a; intro a E
        refine Run.add rfl E rfl rfl rfl rfl (q := (IntKind.i64.wrap (was + zag (getV b at_).1))) (rfl) ?_; clear E a; intro a E
        refine Run.assign rfl E rfl rfl rfl ?_; clear E a; intro a E
        refine Run.nil ?_
        refine then_n ?_
        refine wp_ret ?_
        have hs : morR b at_ e = (at_ + ((getV b at_).2.1 : Int), (getV b at_).2.2, zag (getV b at_).1) := by unfold morR; rw [if_neg (by omega), if_neg (by omega), if_neg (by omega), hg]
        rw [hs]; exact ret1 E Try.results105 rfl ⟨rfl, S⟩
    · skip
      refine Run.eqi rfl E rfl rfl rfl rfl (decide_eq_false (by omega)) ?_; clear E a; intro a E
      refine Run.move rfl E rfl rfl rfl ?_; clear E a; intro a E
      refine Run.off rfl E rfl rfl ?_; clear E a; intro a E
      refine Run.off rfl E rfl rfl ?_; clear E a; intro a E
      refine Run.pickF rfl E rfl rfl rfl rfl ?_; clear E a; intro a E
      refine Run.nil ?_
      refine then_n ?_
      refine cond_F E rfl ?_
      refine wp_skip ?_
      refine then_n ?_
      refine wp_seq ?_
      refine wp_seq ?_
      refine region_plain (n := 5) [(0, .p), (1, .p), (2, .p), (3, .p), (4, .l)] rfl rfl ?_
      refine Run.move rfl E rfl rfl rfl ?_; clear E a; intro a E
      refine Run.move rfl E rfl rfl rfl ?_; clear E a; intro a E
      refine Run.nilCheck rfl E rfl rfl rfl ?_; clear E a; intro a E
      refine Run.fieldAddr rfl E rfl rfl rfl fo152_2 (rfl) ?_; clear E a; intro a E
      refine Run.store (news := [.int .i64 ((getV b at_).2.2 : Int)]) (cs' := [_, _, _]) (hp' := [_]) 0 rfl E S rfl rfl rfl rfl rfl sz25 rfl rfl rfl rfl ?_; clear S; intro w S
      refine Run.nil ?_
      refine then_n ?_
      refine wp_seq ?_
      refine region_plain (n := 2) [(0, .p), (1, .p)] rfl rfl ?_
      refine Run.move rfl E rfl rfl rfl ?_; clear E a; intro a E
      refine Run.nei rfl E rfl rfl rfl rfl (decide_eq_true (by omega)) ?_; clear E a; intro a E
      refine Run.nil ?_
      refine then_n ?_
      refine cond_T E rfl ?_
      refine wp_seq ?_
      refine region_plain (n := 2) [(0, .p), (1, .p)] rfl rfl ?_
      refine Run.move rfl E rfl rfl rfl ?_; clear E a; intro a E
      refine Run.assign rfl E rfl rfl rfl ?_; clear E a; intro a E
      refine Run.nil ?_
      refine then_n ?_
      refine wp_ret ?_
      refine then_r ?_
      have hs : morR b at_ e = (at_, (getV b at_).2.2, 0) := by unfold morR; rw [if_neg (by omega), if_pos (by omega)]
      rw [hs]; exact ret1 E Try.results105 rfl ⟨by rw [Int.add_zero, i64_ok hwas], S⟩
end
end Go.Proofs.Ytlcglefbhlhcpaa.K
