/- A tape: New, what it tells of itself, Bytes, Add. -/
import Derived.Test.YtlcglefbhlhcpaaKg
import Derived.Test.YtlcglefbhlhcpaaTaP
namespace Go.Proofs.Ytlcglefbhlhcpaa.K
open Go.RowKit
set_option linter.unusedVariables false
set_option maxRecDepth 100000
set_option maxHeartbeats 400000

theorem rem_nn (m n : Nat) : (m : Int).tmod (n : Int) = ((m % n : Nat) : Int) := rfl
theorem nat0 {n : Nat} (h : n ≠ 0) : ¬ ((n : Int) = 0) := by omega
section
variable {w0 : World} {A B C D : Option Addr} {c d e f g : Nat} {bs l : List Nat} {sts : List Int} {la s : Sta} {G ev : Nat} {lim : Int}
theorem blankS_walk {bl : Sta} (hbl : bl = Sta.blank (2 * (G + 1))) (hG : G ≤ 99) : Calls Try.prog 78 [.int .i64 (G : Int)].toArray w0 (fun r w' => ∃ B d, r = .returned (.agg #[.int .i64 bl.kind, .int .i64 bl.node, .int .i64 bl.phase, .int .i64 bl.pos, .int .i64 bl.start, .int .i64 bl.depth, .int .i64 bl.org, .slice B bl.caps.length d]) ∧ St [] w0 w' [.row (.slice B bl.caps.length d) 3 1 bl.caps.length (ints bl.caps)]) := by
  subst hbl
  have e1 : (Sta.blank (2 * (G + 1))).caps.length = 2 * (G + 1) := by simp [Sta.blank]
  rw [e1]
  exact blank_walk (g := (G : Int)) (k := G) (by omega)

theorem tape_bad {gr ev lim : Int} (hn : ¬ ((0 ≤ gr ∧ gr ≤ 99) ∧ (1 ≤ ev ∧ ev ≤ 1024) ∧ (0 ≤ lim ∧ lim ≤ 16777216))) : Calls Try.prog 73 [.int .i64 gr, .int .i64 ev, .int .i64 lim].toArray w0 (fun r w' => r = .returned (.tuple #[.pointer none, .int .i64 10]) ∧ Bel w0 w') := by
  have S := St.nil [] w0
  refine fn_start Try.func73 rfl 35 rfl rfl [(0, _), (1, _), (2, _)] ⟨rfl, rfl, rfl, trivial⟩ ?_; intro a E
  refine wp_seq ?_
  refine region_plain (n := 2) [(0, .p), (1, .p)] rfl rfl ?_
  refine Run.assign rfl E rfl rfl rfl ?_; clear E a; intro a E
  refine Run.assign rfl E rfl rfl rfl ?_; clear E a; intro a E
  refine Run.nil ?_
  refine then_n ?_
  refine wp_seq ?_
  refine wp_seq ?_
  refine region_plain (n := 22) [(0, .p), (1, .p), (2, .p), (3, .p), (4, .p), (5, .p), (6, .p), (7, .p), (8, .p), (9, .p), (10, .p), (11, .p), (12, .p), (13, .p), (14, .p), (15, .p), (16, .p), (17, .p), (18, .p), (19, .p), (20, .p), (21, .p)] rfl rfl ?_
  refine Run.move rfl E rfl rfl rfl ?_; clear E a; intro a E
  by_cases h1 : gr < 0
  · skip
    refine Run.lss rfl E rfl rfl rfl rfl (decide_eq_true (by omega)) ?_; clear E a; intro a E
    refine Run.move rfl E rfl rfl rfl ?_; clear E a; intro a E
    refine Run.off rfl E rfl rfl ?_; clear E a; intro a E
    refine Run.off rfl E rfl rfl ?_; clear E a; intro a E
    refine Run.pickT rfl E rfl rfl rfl rfl ?_; clear E a; intro a E
    refine Run.move rfl E rfl rfl rfl ?_; clear E a; intro a E
    refine Run.off rfl E rfl rfl ?_; clear E a; intro a E
    refine Run.off rfl E rfl rfl ?_; clear E a; intro a E
    refine Run.pickT rfl E rfl rfl rfl rfl ?_; clear E a; intro a E
    refine Run.move rfl E rfl rfl rfl ?_; clear E a; intro a E
    refine Run.off rfl E rfl rfl ?_; clear E a; intro a E
    refine Run.off rfl E rfl rfl ?_; clear E a; intro a E
    refine Run.pickT rfl E rfl rfl rfl rfl ?_; clear E a; intro a E
    refine Run.move rfl E rfl rfl rfl ?_; clear E a; intro a E
    refine Run.off rfl E rfl rfl ?_; clear E a; intro a E
    refine Run.off rfl E rfl rfl ?_; clear E a; intro a E
    refine Run.pickT rfl E rfl rfl rfl rfl ?_; clear E a; intro a E
    refine Run.move rfl E rfl rfl rfl ?_; clear E a; intro a E
    refine Run.off rfl E rfl rfl ?_; clear E a; intro a E
    refine Run.off rfl E rfl rfl ?_; clear E a; intro a E
    refine Run.pickT rfl E rfl rfl rfl rfl ?_; clear E a; intro a E
    refine Run.nil ?_
    refine then_n ?_
    refine cond_T E rfl ?_
    refine wp_seq ?_
    refine region_plain (n := 2) [(0, .p), (1, .p)] rfl rfl ?_
    refine Run.assign rfl E rfl rfl rfl ?_; clear E a; intro a E
    refine Run.assign rfl E rfl rfl rfl ?_; clear E a; intro a E
    refine Run.nil ?_
    refine then_n ?_
    refine wp_ret ?_
    refine then_r ?_
    exact ret2 E Try.results73 rfl rfl ⟨rfl, S.belT⟩
  · skip
    refine Run.lss rfl E rfl rfl rfl rfl (decide_eq_false (by omega)) ?_; clear E a; intro a E
    refine Run.move rfl E rfl rfl rfl ?_; clear E a; intro a E
    refine Run.move rfl E rfl rfl rfl ?_; clear E a; intro a E
    by_cases h2 : 99 < gr
    · skip
      refine Run.gtr rfl E rfl rfl rfl rfl (decide_eq_true (by omega)) ?_; clear E a; intro a E
      refine Run.pickF rfl E rfl rfl rfl rfl ?_; clear E a; intro a E
      refine Run.move rfl E rfl rfl rfl ?_; clear E a; intro a E
      refine Run.off rfl E rfl rfl ?_; clear E a; intro a E
      refine Run.off rfl E rfl rfl ?_; clear E a; intro a E
      refine Run.pickT rfl E rfl rfl rfl rfl ?_; clear E a; intro a E
      refine Run.move rfl E rfl rfl rfl ?_; clear E a; intro a E
      refine Run.off rfl E rfl rfl ?_; clear E a; intro a E
      refine Run.off rfl E rfl rfl ?_; clear E a; intro a E
      refine Run.pickT rfl E rfl rfl rfl rfl ?_; clear E a; intro a E
      refine Run.move rfl E rfl rfl rfl ?_; clear E a; intro a E
      refine Run.off rfl E rfl rfl ?_; clear E a; intro a E
      refine Run.off rfl E rfl rfl ?_; clear E a; intro a E
      refine Run.pickT rfl E rfl rfl rfl rfl ?_; clear E a; intro a E
      refine Run.move rfl E rfl rfl rfl ?_; clear E a; intro a E
      refine Run.off rfl E rfl rfl ?_; clear E a; intro a E
      refine Run.off rfl E rfl rfl ?_; clear E a; intro a E
      refine Run.pickT rfl E rfl rfl rfl rfl ?_; clear E a; intro a E
      refine Run.nil ?_
      refine then_n ?_
      refine cond_T E rfl ?_
      refine wp_seq ?_
      refine region_plain (n := 2) [(0, .p), (1, .p)] rfl rfl ?_
      refine Run.assign rfl E rfl rfl rfl ?_; clear E a; intro a E
      refine Run.assign rfl E rfl rfl rfl ?_; clear E a; intro a E
      refine Run.nil ?_
      refine then_n ?_
      refine wp_ret ?_
      refine then_r ?_
      exact ret2 E Try.results73 rfl rfl ⟨rfl, S.belT⟩
    · skip
      refine Run.gtr rfl E rfl rfl rfl rfl (decide_eq_false (by omega)) ?_; clear E a; intro a E
      refine Run.pickF rfl E rfl rfl rfl rfl ?_; clear E a; intro a E
      refine Run.move rfl E rfl rfl rfl ?_; clear E a; intro a E
      refine Run.move rfl E rfl rfl rfl ?_; clear E a; intro a E
      by_cases h3 : ev < 1
      · skip
        refine Run.lss rfl E rfl rfl rfl rfl (decide_eq_true (by omega)) ?_; clear E a; intro a E
        refine Run.pickF rfl E rfl rfl rfl rfl ?_; clear E a; intro a E
        refine Run.move rfl E rfl rfl rfl ?_; clear E a; intro a E
        refine Run.off rfl E rfl rfl ?_; clear E a; intro a E
        refine Run.off rfl E rfl rfl ?_; clear E a; intro a E
        refine Run.pickT rfl E rfl rfl rfl rfl ?_; clear E a; intro a E
        refine Run.move rfl E rfl rfl rfl ?_; clear E a; intro a E
        refine Run.off rfl E rfl rfl ?_; clear E a; intro a E
        refine Run.off rfl E rfl rfl ?_; clear E a; intro a E
        refine Run.pickT rfl E rfl rfl rfl rfl ?_; clear E a; intro a E
        refine Run.move rfl E rfl rfl rfl ?_; clear E a; intro a E
        refine Run.off rfl E rfl rfl ?_; clear E a; intro a E
        refine Run.off rfl E rfl rfl ?_; clear E a; intro a E
        refine Run.pickT rfl E rfl rfl rfl rfl ?_; clear E a; intro a E
        refine Run.nil ?_
        refine then_n ?_
        refine cond_T E rfl ?_
        refine wp_seq ?_
        refine region_plain (n := 2) [(0, .p), (1, .p)] rfl rfl ?_
        refine Run.assign rfl E rfl rfl rfl ?_; clear E a; intro a E
        refine Run.assign rfl E rfl rfl rfl ?_; clear E a; intro a E
        refine Run.nil ?_
        refine then_n ?_
        refine wp_ret ?_
        refine then_r ?_
        exact ret2 E Try.results73 rfl rfl ⟨rfl, S.belT⟩
      · skip
        refine Run.lss rfl E rfl rfl rfl rfl (decide_eq_false (by omega)) ?_; clear E a; intro a E
        refine Run.pickF rfl E rfl rfl rfl rfl ?_; clear E a; intro a E
        refine Run.move rfl E rfl rfl rfl ?_; clear E a; intro a E
        refine Run.move rfl E rfl rfl rfl ?_; clear E a; intro a E
        by_cases h4 : 1024 < ev
        · skip
          refine Run.gtr rfl E rfl rfl rfl rfl (decide_eq_true (by omega)) ?_; clear E a; intro a E
          refine Run.pickF rfl E rfl rfl rfl rfl ?_; clear E a; intro a E
          refine Run.move rfl E rfl rfl rfl ?_; clear E a; intro a E
          refine Run.off rfl E rfl rfl ?_; clear E a; intro a E
          refine Run.off rfl E rfl rfl ?_; clear E a; intro a E
          refine Run.pickT rfl E rfl rfl rfl rfl ?_; clear E a; intro a E
          refine Run.move rfl E rfl rfl rfl ?_; clear E a; intro a E
          refine Run.off rfl E rfl rfl ?_; clear E a; intro a E
          refine Run.off rfl E rfl rfl ?_; clear E a; intro a E
          refine Run.pickT rfl E rfl rfl rfl rfl ?_; clear E a; intro a E
          refine Run.nil ?_
          refine then_n ?_
          refine cond_T E rfl ?_
          refine wp_seq ?_
          refine region_plain (n := 2) [(0, .p), (1, .p)] rfl rfl ?_
          refine Run.assign rfl E rfl rfl rfl ?_; clear E a; intro a E
          refine Run.assign rfl E rfl rfl rfl ?_; clear E a; intro a E
          refine Run.nil ?_
          refine then_n ?_
          refine wp_ret ?_
          refine then_r ?_
          exact ret2 E Try.results73 rfl rfl ⟨rfl, S.belT⟩
        · skip
          refine Run.gtr rfl E rfl rfl rfl rfl (decide_eq_false (by omega)) ?_; clear E a; intro a E
          refine Run.pickF rfl E rfl rfl rfl rfl ?_; clear E a; intro a E
          refine Run.move rfl E rfl rfl rfl ?_; clear E a; intro a E
          refine Run.move rfl E rfl rfl rfl ?_; clear E a; intro a E
          by_cases h5 : lim < 0
          · skip
            refine Run.lss rfl E rfl rfl rfl rfl (decide_eq_true (by omega)) ?_; clear E a; intro a E
            refine Run.pickF rfl E rfl rfl rfl rfl ?_; clear E a; intro a E
            refine Run.move rfl E rfl rfl rfl ?_; clear E a; intro a E
            refine Run.off rfl E rfl rfl ?_; clear E a; intro a E
            refine Run.off rfl E rfl rfl ?_; clear E a; intro a E
            refine Run.pickT rfl E rfl rfl rfl rfl ?_; clear E a; intro a E
            refine Run.nil ?_
            refine then_n ?_
            refine cond_T E rfl ?_
            refine wp_seq ?_
            refine region_plain (n := 2) [(0, .p), (1, .p)] rfl rfl ?_
            refine Run.assign rfl E rfl rfl rfl ?_; clear E a; intro a E
            refine Run.assign rfl E rfl rfl rfl ?_; clear E a; intro a E
            refine Run.nil ?_
            refine then_n ?_
            refine wp_ret ?_
            refine then_r ?_
            exact ret2 E Try.results73 rfl rfl ⟨rfl, S.belT⟩
          · skip
            refine Run.lss rfl E rfl rfl rfl rfl (decide_eq_false (by omega)) ?_; clear E a; intro a E
            refine Run.pickF rfl E rfl rfl rfl rfl ?_; clear E a; intro a E
            refine Run.move rfl E rfl rfl rfl ?_; clear E a; intro a E
            refine Run.move rfl E rfl rfl rfl ?_; clear E a; intro a E
            refine Run.gtr rfl E rfl rfl rfl rfl (decide_eq_true (by omega)) ?_; clear E a; intro a E
            refine Run.pickF rfl E rfl rfl rfl rfl ?_; clear E a; intro a E
            refine Run.nil ?_
            refine then_n ?_
            refine cond_T E rfl ?_
            refine wp_seq ?_
            refine region_plain (n := 2) [(0, .p), (1, .p)] rfl rfl ?_
            refine Run.assign rfl E rfl rfl rfl ?_; clear E a; intro a E
            refine Run.assign rfl E rfl rfl rfl ?_; clear E a; intro a E
            refine Run.nil ?_
            refine then_n ?_
            refine wp_ret ?_
            refine then_r ?_
            exact ret2 E Try.results73 rfl rfl ⟨rfl, S.belT⟩

theorem tape_new (hG : G ≤ 99) (he0 : 1 ≤ ev) (he1 : ev ≤ 1024) (hl0 : 0 ≤ lim) (hl1 : lim ≤ 16777216) : Calls Try.prog 73 [.int .i64 (G : Int), .int .i64 (ev : Int), .int .i64 lim].toArray w0 (fun r w' => ∃ g, r = .returned (.tuple #[.pointer (some ⟨g, 0, none⟩), .int .i64 0]) ∧ St [] w0 w' [.obj g 128 [.int .i64 (G : Int), .int .i64 (ev : Int), .int .i64 lim, .slice none (([] : List Nat).length) 0, .slice none (([] : List Int).length) 0, .int .i64 Sta.zero.kind, .int .i64 Sta.zero.node, .int .i64 Sta.zero.phase, .int .i64 Sta.zero.pos, .int .i64 Sta.zero.start, .int .i64 Sta.zero.depth, .int .i64 Sta.zero.org, .slice none Sta.zero.caps.length 0], .row (.slice none (([] : List Nat).length) 0) 5 1 (([] : List Nat).length) (u8s ([] : List Nat)), .row (.slice none (([] : List Int).length) 0) 3 1 (([] : List Int).length) (ints ([] : List Int)), .row (.slice none Sta.zero.caps.length 0) 3 1 Sta.zero.caps.length (ints Sta.zero.caps)]) := by
  have S := St.nil [] w0
  refine fn_start Try.func73 rfl 35 rfl rfl [(0, _), (1, _), (2, _)] ⟨rfl, rfl, rfl, trivial⟩ ?_; intro a E
  refine wp_seq ?_
  refine region_plain (n := 2) [(0, .p), (1, .p)] rfl rfl ?_
  refine Run.assign rfl E rfl rfl rfl ?_; clear E a; intro a E
  refine Run.assign rfl E rfl rfl rfl ?_; clear E a; intro a E
  refine Run.nil ?_
  refine then_n ?_
  refine wp_seq ?_
  refine wp_seq ?_
  refine region_plain (n := 22) [(0, .p), (1, .p), (2, .p), (3, .p), (4, .p), (5, .p), (6, .p), (7, .p), (8, .p), (9, .p), (10, .p), (11, .p), (12, .p), (13, .p), (14, .p), (15, .p), (16, .p), (17, .p), (18, .p), (19, .p), (20, .p), (21, .p)] rfl rfl ?_
  refine Run.move rfl E rfl rfl rfl ?_; clear E a; intro a E
  refine Run.lss rfl E rfl rfl rfl rfl (decide_eq_false (by omega)) ?_; clear E a; intro a E
  refine Run.move rfl E rfl rfl rfl ?_; clear E a; intro a E
  refine Run.move rfl E rfl rfl rfl ?_; clear E a; intro a E
  refine Run.gtr rfl E rfl rfl rfl rfl (decide_eq_false (by omega)) ?_; clear E a; intro a E
  refine Run.pickF rfl E rfl rfl rfl rfl ?_; clear E a; intro a E
  refine Run.move rfl E rfl rfl rfl ?_; clear E a; intro a E
  refine Run.move rfl E rfl rfl rfl ?_; clear E a; intro a E
  refine Run.lss rfl E rfl rfl rfl rfl (decide_eq_false (by omega)) ?_; clear E a; intro a E
  refine Run.pickF rfl E rfl rfl rfl rfl ?_; clear E a; intro a E
  refine Run.move rfl E rfl rfl rfl ?_; clear E a; intro a E
  refine Run.move rfl E rfl rfl rfl ?_; clear E a; intro a E
  refine Run.gtr rfl E rfl rfl rfl rfl (decide_eq_false (by omega)) ?_; clear E a; intro a E
  refine Run.pickF rfl E rfl rfl rfl rfl ?_; clear E a; intro a E
  refine Run.move rfl E rfl rfl rfl ?_; clear E a; intro a E
  refine Run.move rfl E rfl rfl rfl ?_; clear E a; intro a E
  refine Run.lss rfl E rfl rfl rfl rfl (decide_eq_false (by omega)) ?_; clear E a; intro a E
  refine Run.pickF rfl E rfl rfl rfl rfl ?_; clear E a; intro a E
  refine Run.move rfl E rfl rfl rfl ?_; clear E a; intro a E
  refine Run.move rfl E rfl rfl rfl ?_; clear E a; intro a E
  refine Run.gtr rfl E rfl rfl rfl rfl (decide_eq_false (by omega)) ?_; clear E a; intro a E
  refine Run.pickF rfl E rfl rfl rfl rfl ?_; clear E a; intro a E
  refine Run.nil ?_
  refine then_n ?_
  refine cond_F E rfl ?_
  refine wp_skip ?_
  refine then_n ?_
  refine wp_seq ?_
  refine region_plain (n := 7) [(0, .p), (1, .p), (2, .p), (3, .p), (4, .e), (5, .p), (6, .p)] rfl rfl ?_
  refine Run.move rfl E rfl rfl rfl ?_; clear E a; intro a E
  refine Run.move rfl E rfl rfl rfl ?_; clear E a; intro a E
  refine Run.move rfl E rfl rfl rfl ?_; clear E a; intro a E
  refine Run.build (cs := #[.int .i64 (G : Int), .int .i64 (ev : Int), .int .i64 lim, .slice none 0 0, .slice none 0 0, .int .i64 0, .int .i64 0, .int .i64 0, .int .i64 0, .int .i64 0, .int .i64 0, .int .i64 0, .slice none 0 0]) [(0, .int .i64 (G : Int)), (1, .int .i64 (ev : Int)), (2, .int .i64 lim)] rfl E rfl rfl rfl (by kernel_rfl) ?_; clear E a; intro a E
  refine Run.box (cs := [.int .i64 (G : Int), .int .i64 (ev : Int), .int .i64 lim, .slice none 0 0, .slice none 0 0, .int .i64 0, .int .i64 0, .int .i64 0, .int .i64 0, .int .i64 0, .int .i64 0, .int .i64 0, .slice none 0 0]) rfl rfl E S rfl rfl rfl rfl ?_; clear E a S; intro b1 w a E S B_; clear B_
  refine Run.assign rfl E rfl rfl rfl ?_; clear E a; intro a E
  refine Run.assign rfl E rfl rfl rfl ?_; clear E a; intro a E
  refine Run.nil ?_
  refine then_n ?_
  refine wp_ret ?_
  exact ret2 E Try.results73 rfl rfl ⟨b1, rfl, (((S.addNil 3 1).addNil 3 1).addNil 5 1).sel [3, 0, 1, 2] _ rfl rfl⟩

theorem tape_len (H : HoldsAll w0 [.obj g 128 [.int .i64 (G : Int), .int .i64 (ev : Int), .int .i64 lim, .slice A bs.length c, .slice B sts.length d, .int .i64 la.kind, .int .i64 la.node, .int .i64 la.phase, .int .i64 la.pos, .int .i64 la.start, .int .i64 la.depth, .int .i64 la.org, .slice C la.caps.length e], .row (.slice A bs.length c) 5 1 bs.length (u8s bs), .row (.slice B sts.length d) 3 1 sts.length (ints sts), .row (.slice C la.caps.length e) 3 1 la.caps.length (ints la.caps)]) : Calls Try.prog 38 [.pointer (some ⟨g, 0, none⟩)].toArray w0 (fun r w' => r = .returned (.int .i64 (sts.length : Int)) ∧ Bel w0 w') := by
  have S := St.nil [] w0
  obtain ⟨hg, ha, hb, hc, -⟩ := H
  refine fn_start Try.func38 rfl 8 rfl rfl [(0, _)] ⟨rfl, trivial⟩ ?_; intro a E
  refine wp_seq ?_
  refine region_plain (n := 1) [(0, .p)] rfl rfl ?_
  refine Run.assign rfl E rfl rfl rfl ?_; clear E a; intro a E
  refine Run.nil ?_
  refine then_n ?_
  refine wp_seq ?_
  refine region_plain (n := 6) [(0, .p), (1, .p), (2, .p), (3, .l), (4, .p), (5, .p)] rfl rfl ?_
  refine Run.move rfl E rfl rfl rfl ?_; clear E a; intro a E
  refine Run.nilCheck rfl E rfl rfl rfl ?_; clear E a; intro a E
  refine Run.fieldAddr rfl E rfl rfl rfl fo128_4 (rfl) ?_; clear E a; intro a E
  refine Run.load1 rfl rfl E S rfl rfl rfl one32 (fun _ s => roObj hg s rfl) ?_; clear E a; intro a E
  refine Run.len rfl E rfl rfl rfl Try.underlying32 ?_; clear E a; intro a E
  refine Run.assign rfl E rfl rfl rfl ?_; clear E a; intro a E
  refine Run.nil ?_
  refine then_n ?_
  refine wp_ret ?_
  exact ret1 E Try.results38 rfl ⟨rfl, S.belT⟩

theorem tape_groups (H : HoldsAll w0 [.obj g 128 [.int .i64 (G : Int), .int .i64 (ev : Int), .int .i64 lim, .slice A bs.length c, .slice B sts.length d, .int .i64 la.kind, .int .i64 la.node, .int .i64 la.phase, .int .i64 la.pos, .int .i64 la.start, .int .i64 la.depth, .int .i64 la.org, .slice C la.caps.length e], .row (.slice A bs.length c) 5 1 bs.length (u8s bs), .row (.slice B sts.length d) 3 1 sts.length (ints sts), .row (.slice C la.caps.length e) 3 1 la.caps.length (ints la.caps)]) : Calls Try.prog 27 [.pointer (some ⟨g, 0, none⟩)].toArray w0 (fun r w' => r = .returned (.int .i64 (G : Int)) ∧ Bel w0 w') := by
  have S := St.nil [] w0
  obtain ⟨hg, ha, hb, hc, -⟩ := H
  refine fn_start Try.func27 rfl 7 rfl rfl [(0, _)] ⟨rfl, trivial⟩ ?_; intro a E
  refine wp_seq ?_
  refine region_plain (n := 1) [(0, .p)] rfl rfl ?_
  refine Run.assign rfl E rfl rfl rfl ?_; clear E a; intro a E
  refine Run.nil ?_
  refine then_n ?_
  refine wp_seq ?_
  refine region_plain (n := 5) [(0, .p), (1, .p), (2, .p), (3, .l), (4, .p)] rfl rfl ?_
  refine Run.move rfl E rfl rfl rfl ?_; clear E a; intro a E
  refine Run.nilCheck rfl E rfl rfl rfl ?_; clear E a; intro a E
  refine Run.fieldAddr rfl E rfl rfl rfl fo128_0 (rfl) ?_; clear E a; intro a E
  refine Run.load1 rfl rfl E S rfl rfl rfl one3 (fun _ s => roObj hg s rfl) ?_; clear E a; intro a E
  refine Run.assign rfl E rfl rfl rfl ?_; clear E a; intro a E
  refine Run.nil ?_
  refine then_n ?_
  refine wp_ret ?_
  exact ret1 E Try.results27 rfl ⟨rfl, S.belT⟩

theorem tape_every (H : HoldsAll w0 [.obj g 128 [.int .i64 (G : Int), .int .i64 (ev : Int), .int .i64 lim, .slice A bs.length c, .slice B sts.length d, .int .i64 la.kind, .int .i64 la.node, .int .i64 la.phase, .int .i64 la.pos, .int .i64 la.start, .int .i64 la.depth, .int .i64 la.org, .slice C la.caps.length e], .row (.slice A bs.length c) 5 1 bs.length (u8s bs), .row (.slice B sts.length d) 3 1 sts.length (ints sts), .row (.slice C la.caps.length e) 3 1 la.caps.length (ints la.caps)]) : Calls Try.prog 39 [.pointer (some ⟨g, 0, none⟩)].toArray w0 (fun r w' => r = .returned (.int .i64 (ev : Int)) ∧ Bel w0 w') := by
  have S := St.nil [] w0
  obtain ⟨hg, ha, hb, hc, -⟩ := H
  refine fn_start Try.func39 rfl 7 rfl rfl [(0, _)] ⟨rfl, trivial⟩ ?_; intro a E
  refine wp_seq ?_
  refine region_plain (n := 1) [(0, .p)] rfl rfl ?_
  refine Run.assign rfl E rfl rfl rfl ?_; clear E a; intro a E
  refine Run.nil ?_
  refine then_n ?_
  refine wp_seq ?_
  refine region_plain (n := 5) [(0, .p), (1, .p), (2, .p), (3, .l), (4, .p)] rfl rfl ?_
  refine Run.move rfl E rfl rfl rfl ?_; clear E a; intro a E
  refine Run.nilCheck rfl E rfl rfl rfl ?_; clear E a; intro a E
  refine Run.fieldAddr rfl E rfl rfl rfl fo128_1 (rfl) ?_; clear E a; intro a E
  refine Run.load1 rfl rfl E S rfl rfl rfl one3 (fun _ s => roObj hg s rfl) ?_; clear E a; intro a E
  refine Run.assign rfl E rfl rfl rfl ?_; clear E a; intro a E
  refine Run.nil ?_
  refine then_n ?_
  refine wp_ret ?_
  exact ret1 E Try.results39 rfl ⟨rfl, S.belT⟩

theorem tape_size (H : HoldsAll w0 [.obj g 128 [.int .i64 (G : Int), .int .i64 (ev : Int), .int .i64 lim, .slice A bs.length c, .slice B sts.length d, .int .i64 la.kind, .int .i64 la.node, .int .i64 la.phase, .int .i64 la.pos, .int .i64 la.start, .int .i64 la.depth, .int .i64 la.org, .slice C la.caps.length e], .row (.slice A bs.length c) 5 1 bs.length (u8s bs), .row (.slice B sts.length d) 3 1 sts.length (ints sts), .row (.slice C la.caps.length e) 3 1 la.caps.length (ints la.caps)]) : Calls Try.prog 77 [.pointer (some ⟨g, 0, none⟩)].toArray w0 (fun r w' => r = .returned (.int .i64 (bs.length : Int)) ∧ Bel w0 w') := by
  have S := St.nil [] w0
  obtain ⟨hg, ha, hb, hc, -⟩ := H
  refine fn_start Try.func77 rfl 8 rfl rfl [(0, _)] ⟨rfl, trivial⟩ ?_; intro a E
  refine wp_seq ?_
  refine region_plain (n := 1) [(0, .p)] rfl rfl ?_
  refine Run.assign rfl E rfl rfl rfl ?_; clear E a; intro a E
  refine Run.nil ?_
  refine then_n ?_
  refine wp_seq ?_
  refine region_plain (n := 6) [(0, .p), (1, .p), (2, .p), (3, .l), (4, .p), (5, .p)] rfl rfl ?_
  refine Run.move rfl E rfl rfl rfl ?_; clear E a; intro a E
  refine Run.nilCheck rfl E rfl rfl rfl ?_; clear E a; intro a E
  refine Run.fieldAddr rfl E rfl rfl rfl fo128_3 (rfl) ?_; clear E a; intro a E
  refine Run.load1 rfl rfl E S rfl rfl rfl one22 (fun _ s => roObj hg s rfl) ?_; clear E a; intro a E
  refine Run.len rfl E rfl rfl rfl Try.underlying22 ?_; clear E a; intro a E
  refine Run.assign rfl E rfl rfl rfl ?_; clear E a; intro a E
  refine Run.nil ?_
  refine then_n ?_
  refine wp_ret ?_
  exact ret1 E Try.results77 rfl ⟨rfl, S.belT⟩

theorem clone8_nil : Calls Try.prog 110 [.slice none 0 c].toArray w0 (fun r w' => ∃ B d, r = .returned (.slice B 0 d) ∧ St [] w0 w' [.row (.slice B 0 d) 5 1 0 []]) := by
  have S := St.nil [] w0
  refine fn_start Try.func110 rfl 8 rfl rfl [(0, _)] ⟨rfl, trivial⟩ ?_; intro a E
  refine wp_seq ?_
  refine region_plain (n := 1) [(0, .p)] rfl rfl ?_
  refine Run.assign rfl E rfl rfl rfl ?_; clear E a; intro a E
  refine Run.nil ?_
  refine then_n ?_
  refine wp_seq ?_
  refine wp_seq ?_
  refine region_plain (n := 2) [(0, .p), (1, .p)] rfl rfl ?_
  refine Run.move rfl E rfl rfl rfl ?_; clear E a; intro a E
  refine Run.sliceNil (b := true) rfl E rfl rfl rfl Try.underlying22 rfl ?_; clear E a; intro a E
  refine Run.nil ?_
  refine then_n ?_
  refine cond_T E rfl ?_
  refine wp_seq ?_
  refine region_plain (n := 1) [(0, .p)] rfl rfl ?_
  refine Run.assign rfl E rfl rfl rfl ?_; clear E a; intro a E
  refine Run.nil ?_
  refine then_n ?_
  refine wp_ret ?_
  refine then_r ?_
  exact ret1 E Try.results110 rfl ⟨none, 0, rfl, S.addNil 5 1⟩

theorem clone8_some {A : Addr} (H1 : Rd w0 (some A) l.length 1 (u8s l)) (hl : l.length ≤ 140737488355328) : Calls Try.prog 110 [.slice (some A) l.length c].toArray w0 (fun r w' => ∃ B d, r = .returned (.slice B l.length d) ∧ St [] w0 w' [.row (.slice B l.length d) 5 1 l.length (u8s l)]) := by
  have S := St.nil [] w0
  refine fn_start Try.func110 rfl 8 rfl rfl [(0, _)] ⟨rfl, trivial⟩ ?_; intro a E
  refine wp_seq ?_
  refine region_plain (n := 1) [(0, .p)] rfl rfl ?_
  refine Run.assign rfl E rfl rfl rfl ?_; clear E a; intro a E
  refine Run.nil ?_
  refine then_n ?_
  refine wp_seq ?_
  refine wp_seq ?_
  refine region_plain (n := 2) [(0, .p), (1, .p)] rfl rfl ?_
  refine Run.move rfl E rfl rfl rfl ?_; clear E a; intro a E
  refine Run.sliceNil (b := false) rfl E rfl rfl rfl Try.underlying22 rfl ?_; clear E a; intro a E
  refine Run.nil ?_
  refine then_n ?_
  refine cond_F E rfl ?_
  refine wp_skip ?_
  refine then_n ?_
  refine wp_seq ?_
  refine region_plain (n := 4) [(0, .e), (1, .p), (2, .l), (3, .p)] rfl rfl ?_
  refine Run.buildSlice (cs := []) [] rfl rfl E S rfl rfl rfl Try.underlying22 (by kernel_rfl) ?_; clear E a S; intro b1 w a E S B_; clear B_
  refine Run.move rfl E rfl rfl rfl ?_; clear E a; intro a E
  replace S : St _ _ _ [_] := S.objRow (sz := 1) (n := 0) 0 rfl rfl (Nat.zero_le _) rfl
  refine Run.appendE (news := u8s l) 0 rfl rfl E S rfl rfl rfl rfl rfl Try.underlying22 I5 rfl rfl (H1.bel S.belT) (u8s_one _) (by omega) (by omega) ?_; clear E a S; intro A2 c3 w a E S B_; clear B_
  replace S : St _ _ _ [_] := S
  refine Run.assign rfl E rfl rfl rfl ?_; clear E a; intro a E
  refine Run.nil ?_
  refine then_n ?_
  refine wp_ret ?_
  exact ret1 E Try.results110 rfl ⟨A2, c3, rfl, S⟩

theorem clone8_walk (H1 : Rd w0 A l.length 1 (u8s l)) (hl : l.length ≤ 140737488355328) : Calls Try.prog 110 [.slice A l.length c].toArray w0 (fun r w' => ∃ B d, r = .returned (.slice B l.length d) ∧ St [] w0 w' [.row (.slice B l.length d) 5 1 l.length (u8s l)]) := by
  cases A with
  | some A => exact clone8_some H1 hl
  | none =>
    have h0 : l = [] := by
      by_cases h : 0 < l.length
      · obtain ⟨b, o, e, _⟩ := H1.place h; cases e
      · exact List.eq_nil_of_length_eq_zero (by omega)
    subst h0
    exact clone8_nil

theorem tape_bytes (H : HoldsAll w0 [.obj g 128 [.int .i64 (G : Int), .int .i64 (ev : Int), .int .i64 lim, .slice A bs.length c, .slice B sts.length d, .int .i64 la.kind, .int .i64 la.node, .int .i64 la.phase, .int .i64 la.pos, .int .i64 la.start, .int .i64 la.depth, .int .i64 la.org, .slice C la.caps.length e], .row (.slice A bs.length c) 5 1 bs.length (u8s bs), .row (.slice B sts.length d) 3 1 sts.length (ints sts), .row (.slice C la.caps.length e) 3 1 la.caps.length (ints la.caps)]) (hl : bs.length ≤ 140737488355328) : Calls Try.prog 72 [.pointer (some ⟨g, 0, none⟩)].toArray w0 (fun r w' => ∃ B d, r = .returned (.slice B bs.length d) ∧ St [] w0 w' [.row (.slice B bs.length d) 5 1 bs.length (u8s bs)]) := by
  have S := St.nil [] w0
  obtain ⟨hg, ha, hb, hc, -⟩ := H
  refine fn_start Try.func72 rfl 8 rfl rfl [(0, _)] ⟨rfl, trivial⟩ ?_; intro a E
  refine wp_seq ?_
  refine region_plain (n := 1) [(0, .p)] rfl rfl ?_
  refine Run.assign rfl E rfl rfl rfl ?_; clear E a; intro a E
  refine Run.nil ?_
  refine then_n ?_
  refine wp_seq ?_
  refine region_plain (n := 6) [(0, .p), (1, .p), (2, .p), (3, .l), (4, .e), (5, .p)] rfl rfl ?_
  refine Run.move rfl E rfl rfl rfl ?_; clear E a; intro a E
  refine Run.nilCheck rfl E rfl rfl rfl ?_; clear E a; intro a E
  refine Run.fieldAddr rfl E rfl rfl rfl fo128_3 (rfl) ?_; clear E a; intro a E
  refine Run.load1 rfl rfl E S rfl rfl rfl one22 (fun _ s => roObj hg s rfl) ?_; clear E a; intro a E
  refine Run.call (args := [.slice A bs.length c]) rfl rfl E rfl rfl Try.func110 nm110 rfl rfl (clone8_walk (l := bs) ((Rd.of_row ha).bel S.belT) hl) ?_; rintro e_ w ⟨B1, d2, rfl, S_⟩; refine ⟨_, rfl, (fun _ => S_.belT), ?_⟩; clear E a; intro a E
  replace S : St _ _ _ [_] := St.call (A := []) (R := []) S S_; clear S_
  refine Run.assign rfl E rfl rfl rfl ?_; clear E a; intro a E
  refine Run.nil ?_
  refine then_n ?_
  refine wp_ret ?_
  exact ret1 E Try.results72 rfl ⟨B1, d2, rfl, S⟩

theorem add_nor_b (H : Own w0 [.obj g 128 [.int .i64 (G : Int), .int .i64 (ev : Int), .int .i64 lim, .slice A bs.length c, .slice B sts.length d, .int .i64 la.kind, .int .i64 la.node, .int .i64 la.phase, .int .i64 la.pos, .int .i64 la.start, .int .i64 la.depth, .int .i64 la.org, .slice C la.caps.length e], .row (.slice A bs.length c) 5 1 bs.length (u8s bs), .row (.slice B sts.length d) 3 1 sts.length (ints sts), .row (.slice C la.caps.length e) 3 1 la.caps.length (ints la.caps)]) (H1 : Rd w0 D s.caps.length 1 (ints s.caps)) (hDw : 0 < s.caps.length → ∀ b_ o, D = some ⟨b_, o, none⟩ → b_ ∉ fps [.obj g 128 [.int .i64 (G : Int), .int .i64 (ev : Int), .int .i64 lim, .slice A bs.length c, .slice B sts.length d, .int .i64 la.kind, .int .i64 la.node, .int .i64 la.phase, .int .i64 la.pos, .int .i64 la.start, .int .i64 la.depth, .int .i64 la.org, .slice C la.caps.length e], .row (.slice A bs.length c) 5 1 bs.length (u8s bs), .row (.slice B sts.length d) 3 1 sts.length (ints sts), .row (.slice C la.caps.length e) 3 1 la.caps.length (ints la.caps)]) (hs : s.caps.length ≤ 140737488355328) (hG : G ≤ 99) (he0 : 1 ≤ ev) (hbl : bs.length ≤ 16777216) (hsl : sts.length ≤ 16777216) (hla : la.caps.length ≤ 202) {bl : Sta} (hb : bl = Sta.blank (2 * (G + 1))) (hm : sts.length % ev = 0) (hwb : bl.base) (hwg : bl.groups = (G : Int)) (hw2 : bl.caps.length ≤ 202) (hR : ¬ s.Right (G : Int)) : Calls Try.prog 75 [.pointer (some ⟨g, 0, none⟩), .agg #[.int .i64 s.kind, .int .i64 s.node, .int .i64 s.phase, .int .i64 s.pos, .int .i64 s.start, .int .i64 s.depth, .int .i64 s.org, .slice D s.caps.length f]].toArray w0 (fun r w' => r = .returned (.int .i64 11) ∧ St (fps [.obj g 128 [.int .i64 (G : Int), .int .i64 (ev : Int), .int .i64 lim, .slice A bs.length c, .slice B sts.length d, .int .i64 la.kind, .int .i64 la.node, .int .i64 la.phase, .int .i64 la.pos, .int .i64 la.start, .int .i64 la.depth, .int .i64 la.org, .slice C la.caps.length e], .row (.slice A bs.length c) 5 1 bs.length (u8s bs), .row (.slice B sts.length d) 3 1 sts.length (ints sts), .row (.slice C la.caps.length e) 3 1 la.caps.length (ints la.caps)]) w0 w' [.obj g 128 [.int .i64 (G : Int), .int .i64 (ev : Int), .int .i64 lim, .slice A bs.length c, .slice B sts.length d, .int .i64 la.kind, .int .i64 la.node, .int .i64 la.phase, .int .i64 la.pos, .int .i64 la.start, .int .i64 la.depth, .int .i64 la.org, .slice C la.caps.length e], .row (.slice A bs.length c) 5 1 bs.length (u8s bs), .row (.slice B sts.length d) 3 1 sts.length (ints sts), .row (.slice C la.caps.length e) 3 1 la.caps.length (ints la.caps)]) := by
  have S := H.st
  refine fn_start Try.func75 rfl 85 rfl rfl [(0, _), (1, _)] ⟨rfl, rfl, trivial⟩ ?_; intro a E
  refine wp_seq ?_
  refine region_plain (n := 2) [(0, .e), (1, .p)] rfl rfl ?_
  refine Run.box (cs := [.int .i64 s.kind, .int .i64 s.node, .int .i64 s.phase, .int .i64 s.pos, .int .i64 s.start, .int .i64 s.depth, .int .i64 s.org, .slice D s.caps.length f]) rfl rfl E S rfl rfl rfl rfl ?_; clear E a S; intro b1 w a E S B_; clear B_
  refine Run.assign rfl E rfl rfl rfl ?_; clear E a; intro a E
  refine Run.nil ?_
  refine then_n ?_
  refine wp_seq ?_
  refine region_plain (n := 6) [(0, .p), (1, .p), (2, .p), (3, .l), (4, .e), (5, .l)] rfl rfl ?_
  refine Run.move rfl E rfl rfl rfl ?_; clear E a; intro a E
  refine Run.nilCheck rfl E rfl rfl rfl ?_; clear E a; intro a E
  refine Run.fieldAddr rfl E rfl rfl rfl fo128_5 (rfl) ?_; clear E a; intro a E
  refine Run.loadN (cs := [.int .i64 la.kind, .int .i64 la.node, .int .i64 la.phase, .int .i64 la.pos, .int .i64 la.start, .int .i64 la.depth, .int .i64 la.org, .slice C la.caps.length e]) rfl rfl E S rfl rfl rfl ag34 rfl (fun _ s => objPart s 1 5 _ rfl rfl) ?_; clear E a; intro a E
  refine Run.alloc rfl rfl E S rfl rfl z34 rfl ?_; clear E a S; intro b2 w a E S B_; clear B_
  refine Run.store (news := [.int .i64 la.kind, .int .i64 la.node, .int .i64 la.phase, .int .i64 la.pos, .int .i64 la.start, .int .i64 la.depth, .int .i64 la.org, .slice C la.caps.length e]) (cs' := [_, _, _, _, _, _, _, _]) (hp' := [_, _, _, _, _, _]) 0 rfl E S rfl rfl rfl rfl rfl sz34 rfl rfl rfl rfl ?_; clear S; intro w S
  refine Run.nil ?_
  refine then_n ?_
  refine wp_seq ?_
  refine wp_seq ?_
  refine region_drawS (n := 8) [(0, .p), (2, .p), (3, .p), (4, .p), (5, .t), (1, .e), (6, .p), (7, .p)] [0, 1, 0, 4, 12, 28, 63, 127] S mixed rfl rfl (by kernel_rfl) (fun _ _ _ _ _ h => h) ?_; clear S; intro w S B_; clear B_
  refine Run.move rfl E rfl rfl rfl ?_; clear E a; intro a E
  refine Run.move rfl E rfl rfl rfl ?_; clear E a; intro a E
  refine Run.nilCheck rfl E rfl rfl rfl ?_; clear E a; intro a E
  refine Run.fieldAddr rfl E rfl rfl rfl fo128_1 (rfl) ?_; clear E a; intro a E
  refine Run.load1 rfl rfl E S rfl rfl rfl one3 (fun _ s => s.objCell 2 1 rfl rfl) ?_; clear E a; intro a E
  refine Run.call (args := [.pointer (some ⟨g, 0, none⟩)]) rfl rfl E rfl rfl Try.func38 nm38 rfl rfl (tape_len (A := A) (c := c) (B := B) (d := d) (C := C) (e := e) (bs := bs) (sts := sts) (la := la) (G := G) (ev := ev) (lim := lim) (St.holdsL (A := [.obj g 128 [.int .i64 (G : Int), .int .i64 (ev : Int), .int .i64 lim, .slice A bs.length c, .slice B sts.length d, .int .i64 la.kind, .int .i64 la.node, .int .i64 la.phase, .int .i64 la.pos, .int .i64 la.start, .int .i64 la.depth, .int .i64 la.org, .slice C la.caps.length e], .row (.slice A bs.length c) 5 1 bs.length (u8s bs), .row (.slice B sts.length d) 3 1 sts.length (ints sts), .row (.slice C la.caps.length e) 3 1 la.caps.length (ints la.caps)]) (R := [_, _]) (S.sel [2, 3, 4, 5, 0, 1] ([.obj g 128 [.int .i64 (G : Int), .int .i64 (ev : Int), .int .i64 lim, .slice A bs.length c, .slice B sts.length d, .int .i64 la.kind, .int .i64 la.node, .int .i64 la.phase, .int .i64 la.pos, .int .i64 la.start, .int .i64 la.depth, .int .i64 la.org, .slice C la.caps.length e], .row (.slice A bs.length c) 5 1 bs.length (u8s bs), .row (.slice B sts.length d) 3 1 sts.length (ints sts), .row (.slice C la.caps.length e) 3 1 la.caps.length (ints la.caps)] ++ [_, _]) rfl rfl))) ?_; rintro e_ w ⟨rfl, B_⟩; refine ⟨_, rfl, fun _ => B_, ?_⟩; clear E a; replace S := S.bel B_; intro a E
  clear B_
  refine Run.rem rfl E rfl rfl rfl rfl (by omega) (q := ((sts.length % ev : Nat) : Int)) (rem_nn _ _) ?_; clear E a; intro a E
  refine Run.eqi rfl E rfl rfl rfl rfl (decide_eq_true (by rw [hm]; rfl)) ?_; clear E a; intro a E
  refine Run.nil ?_
  refine then_n ?_
  refine cond_T E rfl ?_
  refine region_plain (n := 6) [(0, .p), (1, .p), (2, .p), (3, .l), (4, .e), (5, .l)] rfl rfl ?_
  refine Run.move rfl E rfl rfl rfl ?_; clear E a; intro a E
  refine Run.nilCheck rfl E rfl rfl rfl ?_; clear E a; intro a E
  refine Run.fieldAddr rfl E rfl rfl rfl fo128_0 (rfl) ?_; clear E a; intro a E
  refine Run.load1 rfl rfl E S rfl rfl rfl one3 (fun _ s => s.objCell 2 0 rfl rfl) ?_; clear E a; intro a E
  refine Run.call (args := [.int .i64 (G : Int)]) rfl rfl E rfl rfl Try.func78 nm78 rfl rfl (blankS_walk hb hG) ?_; rintro e_ w ⟨P3, q4, rfl, S_⟩; refine ⟨_, rfl, (fun _ => S_.belT), ?_⟩; clear E a; intro a E
  replace S : St _ _ _ [_, .obj _ _ [_, _, _, _, _, _, _, _], .obj _ _ [_, _, _, _, _, _, _, _], .obj _ _ [_, _, _, _, _, _, _, _, _, _, _, _, _], _, _, _] := St.call (A := []) (R := [_, _, _, _, _, _]) S S_; clear S_
  refine Run.store (news := [.int .i64 bl.kind, .int .i64 bl.node, .int .i64 bl.phase, .int .i64 bl.pos, .int .i64 bl.start, .int .i64 bl.depth, .int .i64 bl.org, .slice P3 bl.caps.length q4]) (cs' := [_, _, _, _, _, _, _, _]) (hp' := [_, _, _, _, _, _, _]) 1 rfl E S rfl rfl rfl rfl rfl sz34 rfl rfl rfl rfl ?_; clear S; intro w S
  refine Run.nil ?_
  refine then_n ?_
  refine wp_seq ?_
  refine region_plain (n := 8) [(0, .l), (1, .l), (2, .e), (3, .p), (4, .p), (5, .p), (6, .p), (7, .p)] rfl rfl ?_
  refine Run.loadN (cs := [.int .i64 bl.kind, .int .i64 bl.node, .int .i64 bl.phase, .int .i64 bl.pos, .int .i64 bl.start, .int .i64 bl.depth, .int .i64 bl.org, .slice P3 bl.caps.length q4]) rfl rfl E S rfl rfl rfl ag34 rfl (fun _ s => objAll s 1 rfl) ?_; clear E a; intro a E
  refine Run.loadN (cs := [.int .i64 s.kind, .int .i64 s.node, .int .i64 s.phase, .int .i64 s.pos, .int .i64 s.start, .int .i64 s.depth, .int .i64 s.org, .slice D s.caps.length f]) rfl rfl E S rfl rfl rfl ag34 rfl (fun _ s => objAll s 2 rfl) ?_; clear E a; intro a E
  refine Run.call (args := [.agg #[.int .i64 bl.kind, .int .i64 bl.node, .int .i64 bl.phase, .int .i64 bl.pos, .int .i64 bl.start, .int .i64 bl.depth, .int .i64 bl.org, .slice P3 bl.caps.length q4], .agg #[.int .i64 s.kind, .int .i64 s.node, .int .i64 s.phase, .int .i64 s.pos, .int .i64 s.start, .int .i64 s.depth, .int .i64 s.org, .slice D s.caps.length f]]) rfl rfl E rfl rfl Try.func62 nm62 rfl rfl (dbytes_noright (s := bl) (t := s) (S.rd 0 rfl) (H1.chg S.chg hDw) (by omega) (by omega) hwb (by rw [hwg]; exact hR)) ?_; rintro e_ w ⟨rfl, B_⟩; refine ⟨_, rfl, fun _ => B_, ?_⟩; clear E a; replace S := S.bel B_; intro a E
  clear B_
  refine Run.move rfl E rfl rfl rfl ?_; clear E a; intro a E
  refine Run.extract rfl E rfl rfl rfl rfl ?_; clear E a; intro a E
  refine Run.extract rfl E rfl rfl rfl rfl ?_; clear E a; intro a E
  refine Run.assign rfl E rfl rfl rfl ?_; clear E a; intro a E
  refine Run.assign rfl E rfl rfl rfl ?_; clear E a; intro a E
  refine Run.nil ?_
  refine then_n ?_
  refine wp_seq ?_
  refine wp_block ?_
  refine wp_seq ?_
  refine region_drawS (n := 12) [(1, .p), (2, .p), (3, .p), (0, .t), (4, .t), (5, .e), (6, .p), (7, .p), (8, .p), (9, .p), (10, .p), (11, .p)] [0, 0, 2, 6, 14, 31, 63, 127, 255, 511, 1023, 2047] S mixed rfl rfl (by kernel_rfl) (fun _ _ _ _ _ h => h) ?_; clear S; intro w S B_; clear B_
  refine Run.move rfl E rfl rfl rfl ?_; clear E a; intro a E
  refine Run.nilCheck rfl E rfl rfl rfl ?_; clear E a; intro a E
  refine Run.fieldAddr rfl E rfl rfl rfl fo128_0 (rfl) ?_; clear E a; intro a E
  refine Run.loadN (cs := [.int .i64 s.kind, .int .i64 s.node, .int .i64 s.phase, .int .i64 s.pos, .int .i64 s.start, .int .i64 s.depth, .int .i64 s.org, .slice D s.caps.length f]) rfl rfl E S rfl rfl rfl ag34 rfl (fun _ s => objAll s 2 rfl) ?_; clear E a; intro a E
  refine Run.load1 rfl rfl E S rfl rfl rfl one3 (fun _ s => s.objCell 3 0 rfl rfl) ?_; clear E a; intro a E
  refine Run.call (args := [.agg #[.int .i64 s.kind, .int .i64 s.node, .int .i64 s.phase, .int .i64 s.pos, .int .i64 s.start, .int .i64 s.depth, .int .i64 s.org, .slice D s.caps.length f], .int .i64 (G : Int)]) rfl rfl E rfl rfl Try.func26 nm26 rfl rfl (right_walk (s := s) (g := (G : Int)) (H1.chg S.chg hDw) (by omega)) ?_; rintro e_ w ⟨rfl, B_⟩; refine ⟨_, rfl, fun _ => B_, ?_⟩; clear E a; replace S := S.bel B_; intro a E
  clear B_
  replace E := E.setb 37 rfl (decide_eq_false hR)
  refine Run.not rfl E rfl rfl rfl rfl ?_; clear E a; intro a E
  refine Run.move rfl E rfl rfl rfl ?_; clear E a; intro a E
  refine Run.off rfl E rfl rfl ?_; clear E a; intro a E
  refine Run.off rfl E rfl rfl ?_; clear E a; intro a E
  refine Run.pickT rfl E rfl rfl rfl rfl ?_; clear E a; intro a E
  refine Run.assign rfl E rfl rfl rfl ?_; clear E a; intro a E
  refine Run.nil ?_
  refine then_n ?_
  refine cond_T E rfl ?_
  refine wp_seq ?_
  refine region_plain (n := 1) [(0, .p)] rfl rfl ?_
  refine Run.assign rfl E rfl rfl rfl ?_; clear E a; intro a E
  refine Run.nil ?_
  refine then_n ?_
  refine wp_ret ?_
  refine blk_r ?_
  refine then_r ?_
  have S : St _ _ _ [_, _, _, _, _, _, _] := S.sel [0, 1, 2, 3, 4, 5, 6] _ rfl rfl
  have S := S.drop1.drop1.drop1
  exact ret1 E Try.results75 rfl ⟨rfl, S⟩

theorem add_full_b (H : Own w0 [.obj g 128 [.int .i64 (G : Int), .int .i64 (ev : Int), .int .i64 lim, .slice A bs.length c, .slice B sts.length d, .int .i64 la.kind, .int .i64 la.node, .int .i64 la.phase, .int .i64 la.pos, .int .i64 la.start, .int .i64 la.depth, .int .i64 la.org, .slice C la.caps.length e], .row (.slice A bs.length c) 5 1 bs.length (u8s bs), .row (.slice B sts.length d) 3 1 sts.length (ints sts), .row (.slice C la.caps.length e) 3 1 la.caps.length (ints la.caps)]) (H1 : Rd w0 D s.caps.length 1 (ints s.caps)) (hDw : 0 < s.caps.length → ∀ b_ o, D = some ⟨b_, o, none⟩ → b_ ∉ fps [.obj g 128 [.int .i64 (G : Int), .int .i64 (ev : Int), .int .i64 lim, .slice A bs.length c, .slice B sts.length d, .int .i64 la.kind, .int .i64 la.node, .int .i64 la.phase, .int .i64 la.pos, .int .i64 la.start, .int .i64 la.depth, .int .i64 la.org, .slice C la.caps.length e], .row (.slice A bs.length c) 5 1 bs.length (u8s bs), .row (.slice B sts.length d) 3 1 sts.length (ints sts), .row (.slice C la.caps.length e) 3 1 la.caps.length (ints la.caps)]) (hs : s.caps.length ≤ 140737488355328) (hG : G ≤ 99) (he0 : 1 ≤ ev) (hbl : bs.length ≤ 16777216) (hsl : sts.length ≤ 16777216) (hla : la.caps.length ≤ 202) {bl : Sta} (hb : bl = Sta.blank (2 * (G + 1))) (hm : sts.length % ev = 0) (hwb : bl.base) (hwg : bl.groups = (G : Int)) (hw2 : bl.caps.length ≤ 202) (hR : s.Right (G : Int)) (hf : lim < ((bs ++ rec18 bl s).length : Int)) : Calls Try.prog 75 [.pointer (some ⟨g, 0, none⟩), .agg #[.int .i64 s.kind, .int .i64 s.node, .int .i64 s.phase, .int .i64 s.pos, .int .i64 s.start, .int .i64 s.depth, .int .i64 s.org, .slice D s.caps.length f]].toArray w0 (fun r w' => r = .returned (.int .i64 13) ∧ St (fps [.obj g 128 [.int .i64 (G : Int), .int .i64 (ev : Int), .int .i64 lim, .slice A bs.length c, .slice B sts.length d, .int .i64 la.kind, .int .i64 la.node, .int .i64 la.phase, .int .i64 la.pos, .int .i64 la.start, .int .i64 la.depth, .int .i64 la.org, .slice C la.caps.length e], .row (.slice A bs.length c) 5 1 bs.length (u8s bs), .row (.slice B sts.length d) 3 1 sts.length (ints sts), .row (.slice C la.caps.length e) 3 1 la.caps.length (ints la.caps)]) w0 w' [.obj g 128 [.int .i64 (G : Int), .int .i64 (ev : Int), .int .i64 lim, .slice A bs.length c, .slice B sts.length d, .int .i64 la.kind, .int .i64 la.node, .int .i64 la.phase, .int .i64 la.pos, .int .i64 la.start, .int .i64 la.depth, .int .i64 la.org, .slice C la.caps.length e], .row (.slice A bs.length c) 5 1 bs.length (u8s bs), .row (.slice B sts.length d) 3 1 sts.length (ints sts), .row (.slice C la.caps.length e) 3 1 la.caps.length (ints la.caps)]) := by
  have S := H.st
  have hcl := right_capl hR
  have hrl := rec18_len bl s hwb (by rw [hwg]; exact hR)
  have hnl : (bs ++ rec18 bl s).length = bs.length + (rec18 bl s).length := List.length_append
  refine fn_start Try.func75 rfl 85 rfl rfl [(0, _), (1, _)] ⟨rfl, rfl, trivial⟩ ?_; intro a E
  refine wp_seq ?_
  refine region_plain (n := 2) [(0, .e), (1, .p)] rfl rfl ?_
  refine Run.box (cs := [.int .i64 s.kind, .int .i64 s.node, .int .i64 s.phase, .int .i64 s.pos, .int .i64 s.start, .int .i64 s.depth, .int .i64 s.org, .slice D s.caps.length f]) rfl rfl E S rfl rfl rfl rfl ?_; clear E a S; intro b1 w a E S B_; clear B_
  refine Run.assign rfl E rfl rfl rfl ?_; clear E a; intro a E
  refine Run.nil ?_
  refine then_n ?_
  refine wp_seq ?_
  refine region_plain (n := 6) [(0, .p), (1, .p), (2, .p), (3, .l), (4, .e), (5, .l)] rfl rfl ?_
  refine Run.move rfl E rfl rfl rfl ?_; clear E a; intro a E
  refine Run.nilCheck rfl E rfl rfl rfl ?_; clear E a; intro a E
  refine Run.fieldAddr rfl E rfl rfl rfl fo128_5 (rfl) ?_; clear E a; intro a E
  refine Run.loadN (cs := [.int .i64 la.kind, .int .i64 la.node, .int .i64 la.phase, .int .i64 la.pos, .int .i64 la.start, .int .i64 la.depth, .int .i64 la.org, .slice C la.caps.length e]) rfl rfl E S rfl rfl rfl ag34 rfl (fun _ s => objPart s 1 5 _ rfl rfl) ?_; clear E a; intro a E
  refine Run.alloc rfl rfl E S rfl rfl z34 rfl ?_; clear E a S; intro b2 w a E S B_; clear B_
  refine Run.store (news := [.int .i64 la.kind, .int .i64 la.node, .int .i64 la.phase, .int .i64 la.pos, .int .i64 la.start, .int .i64 la.depth, .int .i64 la.org, .slice C la.caps.length e]) (cs' := [_, _, _, _, _, _, _, _]) (hp' := [_, _, _, _, _, _]) 0 rfl E S rfl rfl rfl rfl rfl sz34 rfl rfl rfl rfl ?_; clear S; intro w S
  refine Run.nil ?_
  refine then_n ?_
  refine wp_seq ?_
  refine wp_seq ?_
  refine region_drawS (n := 8) [(0, .p), (2, .p), (3, .p), (4, .p), (5, .t), (1, .e), (6, .p), (7, .p)] [0, 1, 0, 4, 12, 28, 63, 127] S mixed rfl rfl (by kernel_rfl) (fun _ _ _ _ _ h => h) ?_; clear S; intro w S B_; clear B_
  refine Run.move rfl E rfl rfl rfl ?_; clear E a; intro a E
  refine Run.move rfl E rfl rfl rfl ?_; clear E a; intro a E
  refine Run.nilCheck rfl E rfl rfl rfl ?_; clear E a; intro a E
  refine Run.fieldAddr rfl E rfl rfl rfl fo128_1 (rfl) ?_; clear E a; intro a E
  refine Run.load1 rfl rfl E S rfl rfl rfl one3 (fun _ s => s.objCell 2 1 rfl rfl) ?_; clear E a; intro a E
  refine Run.call (args := [.pointer (some ⟨g, 0, none⟩)]) rfl rfl E rfl rfl Try.func38 nm38 rfl rfl (tape_len (A := A) (c := c) (B := B) (d := d) (C := C) (e := e) (bs := bs) (sts := sts) (la := la) (G := G) (ev := ev) (lim := lim) (St.holdsL (A := [.obj g 128 [.int .i64 (G : Int), .int .i64 (ev : Int), .int .i64 lim, .slice A bs.length c, .slice B sts.length d, .int .i64 la.kind, .int .i64 la.node, .int .i64 la.phase, .int .i64 la.pos, .int .i64 la.start, .int .i64 la.depth, .int .i64 la.org, .slice C la.caps.length e], .row (.slice A bs.length c) 5 1 bs.length (u8s bs), .row (.slice B sts.length d) 3 1 sts.length (ints sts), .row (.slice C la.caps.length e) 3 1 la.caps.length (ints la.caps)]) (R := [_, _]) (S.sel [2, 3, 4, 5, 0, 1] ([.obj g 128 [.int .i64 (G : Int), .int .i64 (ev : Int), .int .i64 lim, .slice A bs.length c, .slice B sts.length d, .int .i64 la.kind, .int .i64 la.node, .int .i64 la.phase, .int .i64 la.pos, .int .i64 la.start, .int .i64 la.depth, .int .i64 la.org, .slice C la.caps.length e], .row (.slice A bs.length c) 5 1 bs.length (u8s bs), .row (.slice B sts.length d) 3 1 sts.length (ints sts), .row (.slice C la.caps.length e) 3 1 la.caps.length (ints la.caps)] ++ [_, _]) rfl rfl))) ?_; rintro e_ w ⟨rfl, B_⟩; refine ⟨_, rfl, fun _ => B_, ?_⟩; clear E a; replace S := S.bel B_; intro a E
  clear B_
  refine Run.rem rfl E rfl rfl rfl rfl (by omega) (q := ((sts.length % ev : Nat) : Int)) (rem_nn _ _) ?_; clear E a; intro a E
  refine Run.eqi rfl E rfl rfl rfl rfl (decide_eq_true (by rw [hm]; rfl)) ?_; clear E a; intro a E
  refine Run.nil ?_
  refine then_n ?_
  refine cond_T E rfl ?_
  refine region_plain (n := 6) [(0, .p), (1, .p), (2, .p), (3, .l), (4, .e), (5, .l)] rfl rfl ?_
  refine Run.move rfl E rfl rfl rfl ?_; clear E a; intro a E
  refine Run.nilCheck rfl E rfl rfl rfl ?_; clear E a; intro a E
  refine Run.fieldAddr rfl E rfl rfl rfl fo128_0 (rfl) ?_; clear E a; intro a E
  refine Run.load1 rfl rfl E S rfl rfl rfl one3 (fun _ s => s.objCell 2 0 rfl rfl) ?_; clear E a; intro a E
  refine Run.call (args := [.int .i64 (G : Int)]) rfl rfl E rfl rfl Try.func78 nm78 rfl rfl (blankS_walk hb hG) ?_; rintro e_ w ⟨P3, q4, rfl, S_⟩; refine ⟨_, rfl, (fun _ => S_.belT), ?_⟩; clear E a; intro a E
  replace S : St _ _ _ [_, .obj _ _ [_, _, _, _, _, _, _, _], .obj _ _ [_, _, _, _, _, _, _, _], .obj _ _ [_, _, _, _, _, _, _, _, _, _, _, _, _], _, _, _] := St.call (A := []) (R := [_, _, _, _, _, _]) S S_; clear S_
  refine Run.store (news := [.int .i64 bl.kind, .int .i64 bl.node, .int .i64 bl.phase, .int .i64 bl.pos, .int .i64 bl.start, .int .i64 bl.depth, .int .i64 bl.org, .slice P3 bl.caps.length q4]) (cs' := [_, _, _, _, _, _, _, _]) (hp' := [_, _, _, _, _, _, _]) 1 rfl E S rfl rfl rfl rfl rfl sz34 rfl rfl rfl rfl ?_; clear S; intro w S
  refine Run.nil ?_
  refine then_n ?_
  refine wp_seq ?_
  refine region_plain (n := 8) [(0, .l), (1, .l), (2, .e), (3, .p), (4, .p), (5, .p), (6, .p), (7, .p)] rfl rfl ?_
  refine Run.loadN (cs := [.int .i64 bl.kind, .int .i64 bl.node, .int .i64 bl.phase, .int .i64 bl.pos, .int .i64 bl.start, .int .i64 bl.depth, .int .i64 bl.org, .slice P3 bl.caps.length q4]) rfl rfl E S rfl rfl rfl ag34 rfl (fun _ s => objAll s 1 rfl) ?_; clear E a; intro a E
  refine Run.loadN (cs := [.int .i64 s.kind, .int .i64 s.node, .int .i64 s.phase, .int .i64 s.pos, .int .i64 s.start, .int .i64 s.depth, .int .i64 s.org, .slice D s.caps.length f]) rfl rfl E S rfl rfl rfl ag34 rfl (fun _ s => objAll s 2 rfl) ?_; clear E a; intro a E
  refine Run.call (args := [.agg #[.int .i64 bl.kind, .int .i64 bl.node, .int .i64 bl.phase, .int .i64 bl.pos, .int .i64 bl.start, .int .i64 bl.depth, .int .i64 bl.org, .slice P3 bl.caps.length q4], .agg #[.int .i64 s.kind, .int .i64 s.node, .int .i64 s.phase, .int .i64 s.pos, .int .i64 s.start, .int .i64 s.depth, .int .i64 s.org, .slice D s.caps.length f]]) rfl rfl E rfl rfl Try.func62 nm62 rfl rfl (dbytes_walk (s := bl) (t := s) (S.rd 0 rfl) (H1.chg S.chg hDw) (by omega) (by omega) hwb (by rw [hwg]; exact hR)) ?_; rintro e_ w ⟨X5, q6, rfl, S_⟩; refine ⟨_, rfl, (fun _ => S_.belT), ?_⟩; clear E a; intro a E
  replace S : St _ _ _ [_, _, .obj _ _ [_, _, _, _, _, _, _, _], .obj _ _ [_, _, _, _, _, _, _, _], .obj _ _ [_, _, _, _, _, _, _, _, _, _, _, _, _], _, _, _] := St.call (A := []) (R := [_, _, _, _, _, _, _]) S S_; clear S_
  refine Run.move rfl E rfl rfl rfl ?_; clear E a; intro a E
  refine Run.extract rfl E rfl rfl rfl rfl ?_; clear E a; intro a E
  refine Run.extract rfl E rfl rfl rfl rfl ?_; clear E a; intro a E
  refine Run.assign rfl E rfl rfl rfl ?_; clear E a; intro a E
  refine Run.assign rfl E rfl rfl rfl ?_; clear E a; intro a E
  refine Run.nil ?_
  refine then_n ?_
  refine wp_seq ?_
  refine wp_block ?_
  refine wp_seq ?_
  refine region_drawS (n := 12) [(1, .p), (2, .p), (3, .p), (0, .t), (4, .t), (5, .e), (6, .p), (7, .p), (8, .p), (9, .p), (10, .p), (11, .p)] [0, 0, 2, 6, 14, 31, 63, 127, 255, 511, 1023, 2047] S mixed rfl rfl (by kernel_rfl) (fun _ _ _ _ _ h => h) ?_; clear S; intro w S B_; clear B_
  refine Run.move rfl E rfl rfl rfl ?_; clear E a; intro a E
  refine Run.nilCheck rfl E rfl rfl rfl ?_; clear E a; intro a E
  refine Run.fieldAddr rfl E rfl rfl rfl fo128_0 (rfl) ?_; clear E a; intro a E
  refine Run.loadN (cs := [.int .i64 s.kind, .int .i64 s.node, .int .i64 s.phase, .int .i64 s.pos, .int .i64 s.start, .int .i64 s.depth, .int .i64 s.org, .slice D s.caps.length f]) rfl rfl E S rfl rfl rfl ag34 rfl (fun _ s => objAll s 3 rfl) ?_; clear E a; intro a E
  refine Run.load1 rfl rfl E S rfl rfl rfl one3 (fun _ s => s.objCell 4 0 rfl rfl) ?_; clear E a; intro a E
  refine Run.call (args := [.agg #[.int .i64 s.kind, .int .i64 s.node, .int .i64 s.phase, .int .i64 s.pos, .int .i64 s.start, .int .i64 s.depth, .int .i64 s.org, .slice D s.caps.length f], .int .i64 (G : Int)]) rfl rfl E rfl rfl Try.func26 nm26 rfl rfl (right_walk (s := s) (g := (G : Int)) (H1.chg S.chg hDw) (by omega)) ?_; rintro e_ w ⟨rfl, B_⟩; refine ⟨_, rfl, fun _ => B_, ?_⟩; clear E a; replace S := S.bel B_; intro a E
  clear B_
  replace E := E.setb 37 rfl (decide_eq_true hR)
  refine Run.not rfl E rfl rfl rfl rfl ?_; clear E a; intro a E
  refine Run.move rfl E rfl rfl rfl ?_; clear E a; intro a E
  refine Run.move rfl E rfl rfl rfl ?_; clear E a; intro a E
  refine Run.nei rfl E rfl rfl rfl rfl (b := false) (by decide) ?_; clear E a; intro a E
  refine Run.pickF rfl E rfl rfl rfl rfl ?_; clear E a; intro a E
  refine Run.assign rfl E rfl rfl rfl ?_; clear E a; intro a E
  refine Run.nil ?_
  refine then_n ?_
  refine cond_F E rfl ?_
  refine wp_seq ?_
  refine region_drawS (n := 14) [(0, .p), (1, .p), (2, .p), (5, .p), (6, .p), (8, .p), (9, .p), (10, .p), (3, .t), (4, .p), (7, .p), (11, .t), (12, .p), (13, .p)] [0, 1, 3, 7, 15, 0, 32, 127, 0, 256, 768, 1792, 4095, 8191] S mixed rfl rfl (by kernel_rfl) (fun _ _ _ _ _ h => h) ?_; clear S; intro w S B_; clear B_
  refine Run.move rfl E rfl rfl rfl ?_; clear E a; intro a E
  refine Run.nilCheck rfl E rfl rfl rfl ?_; clear E a; intro a E
  refine Run.fieldAddr rfl E rfl rfl rfl fo128_3 (rfl) ?_; clear E a; intro a E
  refine Run.move rfl E rfl rfl rfl ?_; clear E a; intro a E
  refine Run.len rfl E rfl rfl rfl Try.underlying22 ?_; clear E a; intro a E
  refine Run.move rfl E rfl rfl rfl ?_; clear E a; intro a E
  refine Run.nilCheck rfl E rfl rfl rfl ?_; clear E a; intro a E
  refine Run.fieldAddr rfl E rfl rfl rfl fo128_2 (rfl) ?_; clear E a; intro a E
  refine Run.load1 rfl rfl E S rfl rfl rfl one22 (fun _ s => s.objCell 4 3 rfl rfl) ?_; clear E a; intro a E
  refine Run.len rfl E rfl rfl rfl Try.underlying22 ?_; clear E a; intro a E
  refine Run.add rfl E rfl rfl rfl rfl (i64_ok (by omega)) ?_; clear E a; intro a E
  refine Run.load1 rfl rfl E S rfl rfl rfl one3 (fun _ s => s.objCell 4 2 rfl rfl) ?_; clear E a; intro a E
  refine Run.gtr rfl E rfl rfl rfl rfl (decide_eq_true (by omega)) ?_; clear E a; intro a E
  refine Run.assign rfl E rfl rfl rfl ?_; clear E a; intro a E
  refine Run.nil ?_
  refine then_n ?_
  refine cond_T E rfl ?_
  refine wp_seq ?_
  refine region_plain (n := 1) [(0, .p)] rfl rfl ?_
  refine Run.assign rfl E rfl rfl rfl ?_; clear E a; intro a E
  refine Run.nil ?_
  refine then_n ?_
  refine wp_ret ?_
  refine blk_r ?_
  refine then_r ?_
  have S : St _ _ _ [_, _, _, _, _, _, _, _] := S.sel [0, 1, 2, 3, 4, 5, 6, 7] _ rfl rfl
  have S := S.drop1.drop1.drop1.drop1
  exact ret1 E Try.results75 rfl ⟨rfl, S⟩

theorem add_ok_b {bs' : List Nat} {sts' : List Int} (H : Own w0 [.obj g 128 [.int .i64 (G : Int), .int .i64 (ev : Int), .int .i64 lim, .slice A bs.length c, .slice B sts.length d, .int .i64 la.kind, .int .i64 la.node, .int .i64 la.phase, .int .i64 la.pos, .int .i64 la.start, .int .i64 la.depth, .int .i64 la.org, .slice C la.caps.length e], .row (.slice A bs.length c) 5 1 bs.length (u8s bs), .row (.slice B sts.length d) 3 1 sts.length (ints sts), .row (.slice C la.caps.length e) 3 1 la.caps.length (ints la.caps)]) (H1 : Rd w0 D s.caps.length 1 (ints s.caps)) (hDw : 0 < s.caps.length → ∀ b_ o, D = some ⟨b_, o, none⟩ → b_ ∉ fps [.obj g 128 [.int .i64 (G : Int), .int .i64 (ev : Int), .int .i64 lim, .slice A bs.length c, .slice B sts.length d, .int .i64 la.kind, .int .i64 la.node, .int .i64 la.phase, .int .i64 la.pos, .int .i64 la.start, .int .i64 la.depth, .int .i64 la.org, .slice C la.caps.length e], .row (.slice A bs.length c) 5 1 bs.length (u8s bs), .row (.slice B sts.length d) 3 1 sts.length (ints sts), .row (.slice C la.caps.length e) 3 1 la.caps.length (ints la.caps)]) (hs : s.caps.length ≤ 140737488355328) (hG : G ≤ 99) (he0 : 1 ≤ ev) (hbl : bs.length ≤ 16777216) (hsl : sts.length ≤ 16777216) (hla : la.caps.length ≤ 202) {bl : Sta} (hb : bl = Sta.blank (2 * (G + 1))) (hm : sts.length % ev = 0) (hwb : bl.base) (hwg : bl.groups = (G : Int)) (hw2 : bl.caps.length ≤ 202) (hR : s.Right (G : Int)) (hf : ((bs ++ rec18 bl s).length : Int) ≤ lim) (hb' : bs ++ rec18 bl s = bs') (hs' : sts ++ [(bs.length : Int)] = sts') : Calls Try.prog 75 [.pointer (some ⟨g, 0, none⟩), .agg #[.int .i64 s.kind, .int .i64 s.node, .int .i64 s.phase, .int .i64 s.pos, .int .i64 s.start, .int .i64 s.depth, .int .i64 s.org, .slice D s.caps.length f]].toArray w0 (fun r w' => r = .returned (.int .i64 0) ∧ ∃ A' c' B' d' C' e', St (fps [.obj g 128 [.int .i64 (G : Int), .int .i64 (ev : Int), .int .i64 lim, .slice A bs.length c, .slice B sts.length d, .int .i64 la.kind, .int .i64 la.node, .int .i64 la.phase, .int .i64 la.pos, .int .i64 la.start, .int .i64 la.depth, .int .i64 la.org, .slice C la.caps.length e], .row (.slice A bs.length c) 5 1 bs.length (u8s bs), .row (.slice B sts.length d) 3 1 sts.length (ints sts), .row (.slice C la.caps.length e) 3 1 la.caps.length (ints la.caps)]) w0 w' [.obj g 128 [.int .i64 (G : Int), .int .i64 (ev : Int), .int .i64 lim, .slice (A') ((bs').length) (c'), .slice (B') ((sts').length) (d'), .int .i64 s.kind, .int .i64 s.node, .int .i64 s.phase, .int .i64 s.pos, .int .i64 s.start, .int .i64 s.depth, .int .i64 s.org, .slice (C') s.caps.length (e')], .row (.slice (A') ((bs').length) (c')) 5 1 ((bs').length) (u8s (bs')), .row (.slice (B') ((sts').length) (d')) 3 1 ((sts').length) (ints (sts')), .row (.slice (C') s.caps.length (e')) 3 1 s.caps.length (ints s.caps)]) := by
  have S := H.st
  have hcl := right_capl hR
  have hrl := rec18_len bl s hwb (by rw [hwg]; exact hR)
  have hnl : (bs ++ rec18 bl s).length = bs.length + (rec18 bl s).length := List.length_append
  refine fn_start Try.func75 rfl 85 rfl rfl [(0, _), (1, _)] ⟨rfl, rfl, trivial⟩ ?_; intro a E
  refine wp_seq ?_
  refine region_plain (n := 2) [(0, .e), (1, .p)] rfl rfl ?_
  refine Run.box (cs := [.int .i64 s.kind, .int .i64 s.node, .int .i64 s.phase, .int .i64 s.pos, .int .i64 s.start, .int .i64 s.depth, .int .i64 s.org, .slice D s.caps.length f]) rfl rfl E S rfl rfl rfl rfl ?_; clear E a S; intro b1 w a E S B_; clear B_
  refine Run.assign rfl E rfl rfl rfl ?_; clear E a; intro a E
  refine Run.nil ?_
  refine then_n ?_
  refine wp_seq ?_
  refine region_plain (n := 6) [(0, .p), (1, .p), (2, .p), (3, .l), (4, .e), (5, .l)] rfl rfl ?_
  refine Run.move rfl E rfl rfl rfl ?_; clear E a; intro a E
  refine Run.nilCheck rfl E rfl rfl rfl ?_; clear E a; intro a E
  refine Run.fieldAddr rfl E rfl rfl rfl fo128_5 (rfl) ?_; clear E a; intro a E
  refine Run.loadN (cs := [.int .i64 la.kind, .int .i64 la.node, .int .i64 la.phase, .int .i64 la.pos, .int .i64 la.start, .int .i64 la.depth, .int .i64 la.org, .slice C la.caps.length e]) rfl rfl E S rfl rfl rfl ag34 rfl (fun _ s => objPart s 1 5 _ rfl rfl) ?_; clear E a; intro a E
  refine Run.alloc rfl rfl E S rfl rfl z34 rfl ?_; clear E a S; intro b2 w a E S B_; clear B_
  refine Run.store (news := [.int .i64 la.kind, .int .i64 la.node, .int .i64 la.phase, .int .i64 la.pos, .int .i64 la.start, .int .i64 la.depth, .int .i64 la.org, .slice C la.caps.length e]) (cs' := [_, _, _, _, _, _, _, _]) (hp' := [_, _, _, _, _, _]) 0 rfl E S rfl rfl rfl rfl rfl sz34 rfl rfl rfl rfl ?_; clear S; intro w S
  refine Run.nil ?_
  refine then_n ?_
  refine wp_seq ?_
  refine wp_seq ?_
  refine region_drawS (n := 8) [(0, .p), (2, .p), (3, .p), (4, .p), (5, .t), (1, .e), (6, .p), (7, .p)] [0, 1, 0, 4, 12, 28, 63, 127] S mixed rfl rfl (by kernel_rfl) (fun _ _ _ _ _ h => h) ?_; clear S; intro w S B_; clear B_
  refine Run.move rfl E rfl rfl rfl ?_; clear E a; intro a E
  refine Run.move rfl E rfl rfl rfl ?_; clear E a; intro a E
  refine Run.nilCheck rfl E rfl rfl rfl ?_; clear E a; intro a E
  refine Run.fieldAddr rfl E rfl rfl rfl fo128_1 (rfl) ?_; clear E a; intro a E
  refine Run.load1 rfl rfl E S rfl rfl rfl one3 (fun _ s => s.objCell 2 1 rfl rfl) ?_; clear E a; intro a E
  refine Run.call (args := [.pointer (some ⟨g, 0, none⟩)]) rfl rfl E rfl rfl Try.func38 nm38 rfl rfl (tape_len (A := A) (c := c) (B := B) (d := d) (C := C) (e := e) (bs := bs) (sts := sts) (la := la) (G := G) (ev := ev) (lim := lim) (St.holdsL (A := [.obj g 128 [.int .i64 (G : Int), .int .i64 (ev : Int), .int .i64 lim, .slice A bs.length c, .slice B sts.length d, .int .i64 la.kind, .int .i64 la.node, .int .i64 la.phase, .int .i64 la.pos, .int .i64 la.start, .int .i64 la.depth, .int .i64 la.org, .slice C la.caps.length e], .row (.slice A bs.length c) 5 1 bs.length (u8s bs), .row (.slice B sts.length d) 3 1 sts.length (ints sts), .row (.slice C la.caps.length e) 3 1 la.caps.length (ints la.caps)]) (R := [_, _]) (S.sel [2, 3, 4, 5, 0, 1] ([.obj g 128 [.int .i64 (G : Int), .int .i64 (ev : Int), .int .i64 lim, .slice A bs.length c, .slice B sts.length d, .int .i64 la.kind, .int .i64 la.node, .int .i64 la.phase, .int .i64 la.pos, .int .i64 la.start, .int .i64 la.depth, .int .i64 la.org, .slice C la.caps.length e], .row (.slice A bs.length c) 5 1 bs.length (u8s bs), .row (.slice B sts.length d) 3 1 sts.length (ints sts), .row (.slice C la.caps.length e) 3 1 la.caps.length (ints la.caps)] ++ [_, _]) rfl rfl))) ?_; rintro e_ w ⟨rfl, B_⟩; refine ⟨_, rfl, fun _ => B_, ?_⟩; clear E a; replace S := S.bel B_; intro a E
  clear B_
  refine Run.rem rfl E rfl rfl rfl rfl (by omega) (q := ((sts.length % ev : Nat) : Int)) (rem_nn _ _) ?_; clear E a; intro a E
  refine Run.eqi rfl E rfl rfl rfl rfl (decide_eq_true (by rw [hm]; rfl)) ?_; clear E a; intro a E
  refine Run.nil ?_
  refine then_n ?_
  refine cond_T E rfl ?_
  refine region_plain (n := 6) [(0, .p), (1, .p), (2, .p), (3, .l), (4, .e), (5, .l)] rfl rfl ?_
  refine Run.move rfl E rfl rfl rfl ?_; clear E a; intro a E
  refine Run.nilCheck rfl E rfl rfl rfl ?_; clear E a; intro a E
  refine Run.fieldAddr rfl E rfl rfl rfl fo128_0 (rfl) ?_; clear E a; intro a E
  refine Run.load1 rfl rfl E S rfl rfl rfl one3 (fun _ s => s.objCell 2 0 rfl rfl) ?_; clear E a; intro a E
  refine Run.call (args := [.int .i64 (G : Int)]) rfl rfl E rfl rfl Try.func78 nm78 rfl rfl (blankS_walk hb hG) ?_; rintro e_ w ⟨P3, q4, rfl, S_⟩; refine ⟨_, rfl, (fun _ => S_.belT), ?_⟩; clear E a; intro a E
  replace S : St _ _ _ [_, .obj _ _ [_, _, _, _, _, _, _, _], .obj _ _ [_, _, _, _, _, _, _, _], .obj _ _ [_, _, _, _, _, _, _, _, _, _, _, _, _], _, _, _] := St.call (A := []) (R := [_, _, _, _, _, _]) S S_; clear S_
  refine Run.store (news := [.int .i64 bl.kind, .int .i64 bl.node, .int .i64 bl.phase, .int .i64 bl.pos, .int .i64 bl.start, .int .i64 bl.depth, .int .i64 bl.org, .slice P3 bl.caps.length q4]) (cs' := [_, _, _, _, _, _, _, _]) (hp' := [_, _, _, _, _, _, _]) 1 rfl E S rfl rfl rfl rfl rfl sz34 rfl rfl rfl rfl ?_; clear S; intro w S
  refine Run.nil ?_
  refine then_n ?_
  refine wp_seq ?_
  refine region_plain (n := 8) [(0, .l), (1, .l), (2, .e), (3, .p), (4, .p), (5, .p), (6, .p), (7, .p)] rfl rfl ?_
  refine Run.loadN (cs := [.int .i64 bl.kind, .int .i64 bl.node, .int .i64 bl.phase, .int .i64 bl.pos, .int .i64 bl.start, .int .i64 bl.depth, .int .i64 bl.org, .slice P3 bl.caps.length q4]) rfl rfl E S rfl rfl rfl ag34 rfl (fun _ s => objAll s 1 rfl) ?_; clear E a; intro a E
  refine Run.loadN (cs := [.int .i64 s.kind, .int .i64 s.node, .int .i64 s.phase, .int .i64 s.pos, .int .i64 s.start, .int .i64 s.depth, .int .i64 s.org, .slice D s.caps.length f]) rfl rfl E S rfl rfl rfl ag34 rfl (fun _ s => objAll s 2 rfl) ?_; clear E a; intro a E
  refine Run.call (args := [.agg #[.int .i64 bl.kind, .int .i64 bl.node, .int .i64 bl.phase, .int .i64 bl.pos, .int .i64 bl.start, .int .i64 bl.depth, .int .i64 bl.org, .slice P3 bl.caps.length q4], .agg #[.int .i64 s.kind, .int .i64 s.node, .int .i64 s.phase, .int .i64 s.pos, .int .i64 s.start, .int .i64 s.depth, .int .i64 s.org, .slice D s.caps.length f]]) rfl rfl E rfl rfl Try.func62 nm62 rfl rfl (dbytes_walk (s := bl) (t := s) (S.rd 0 rfl) (H1.chg S.chg hDw) (by omega) (by omega) hwb (by rw [hwg]; exact hR)) ?_; rintro e_ w ⟨X5, q6, rfl, S_⟩; refine ⟨_, rfl, (fun _ => S_.belT), ?_⟩; clear E a; intro a E
  replace S : St _ _ _ [_, _, .obj _ _ [_, _, _, _, _, _, _, _], .obj _ _ [_, _, _, _, _, _, _, _], .obj _ _ [_, _, _, _, _, _, _, _, _, _, _, _, _], _, _, _] := St.call (A := []) (R := [_, _, _, _, _, _, _]) S S_; clear S_
  refine Run.move rfl E rfl rfl rfl ?_; clear E a; intro a E
  refine Run.extract rfl E rfl rfl rfl rfl ?_; clear E a; intro a E
  refine Run.extract rfl E rfl rfl rfl rfl ?_; clear E a; intro a E
  refine Run.assign rfl E rfl rfl rfl ?_; clear E a; intro a E
  refine Run.assign rfl E rfl rfl rfl ?_; clear E a; intro a E
  refine Run.nil ?_
  refine then_n ?_
  refine wp_seq ?_
  refine wp_block ?_
  refine wp_seq ?_
  refine region_drawS (n := 12) [(1, .p), (2, .p), (3, .p), (0, .t), (4, .t), (5, .e), (6, .p), (7, .p), (8, .p), (9, .p), (10, .p), (11, .p)] [0, 0, 2, 6, 14, 31, 63, 127, 255, 511, 1023, 2047] S mixed rfl rfl (by kernel_rfl) (fun _ _ _ _ _ h => h) ?_; clear S; intro w S B_; clear B_
  refine Run.move rfl E rfl rfl rfl ?_; clear E a; intro a E
  refine Run.nilCheck rfl E rfl rfl rfl ?_; clear E a; intro a E
  refine Run.fieldAddr rfl E rfl rfl rfl fo128_0 (rfl) ?_; clear E a; intro a E
  refine Run.loadN (cs := [.int .i64 s.kind, .int .i64 s.node, .int .i64 s.phase, .int .i64 s.pos, .int .i64 s.start, .int .i64 s.depth, .int .i64 s.org, .slice D s.caps.length f]) rfl rfl E S rfl rfl rfl ag34 rfl (fun _ s => objAll s 3 rfl) ?_; clear E a; intro a E
  refine Run.load1 rfl rfl E S rfl rfl rfl one3 (fun _ s => s.objCell 4 0 rfl rfl) ?_; clear E a; intro a E
  refine Run.call (args := [.agg #[.int .i64 s.kind, .int .i64 s.node, .int .i64 s.phase, .int .i64 s.pos, .int .i64 s.start, .int .i64 s.depth, .int .i64 s.org, .slice D s.caps.length f], .int .i64 (G : Int)]) rfl rfl E rfl rfl Try.func26 nm26 rfl rfl (right_walk (s := s) (g := (G : Int)) (H1.chg S.chg hDw) (by omega)) ?_; rintro e_ w ⟨rfl, B_⟩; refine ⟨_, rfl, fun _ => B_, ?_⟩; clear E a; replace S := S.bel B_; intro a E
  clear B_
  replace E := E.setb 37 rfl (decide_eq_true hR)
  refine Run.not rfl E rfl rfl rfl rfl ?_; clear E a; intro a E
  refine Run.move rfl E rfl rfl rfl ?_; clear E a; intro a E
  refine Run.move rfl E rfl rfl rfl ?_; clear E a; intro a E
  refine Run.nei rfl E rfl rfl rfl rfl (b := false) (by decide) ?_; clear E a; intro a E
  refine Run.pickF rfl E rfl rfl rfl rfl ?_; clear E a; intro a E
  refine Run.assign rfl E rfl rfl rfl ?_; clear E a; intro a E
  refine Run.nil ?_
  refine then_n ?_
  refine cond_F E rfl ?_
  refine wp_seq ?_
  refine region_drawS (n := 14) [(0, .p), (1, .p), (2, .p), (5, .p), (6, .p), (8, .p), (9, .p), (10, .p), (3, .t), (4, .p), (7, .p), (11, .t), (12, .p), (13, .p)] [0, 1, 3, 7, 15, 0, 32, 127, 0, 256, 768, 1792, 4095, 8191] S mixed rfl rfl (by kernel_rfl) (fun _ _ _ _ _ h => h) ?_; clear S; intro w S B_; clear B_
  refine Run.move rfl E rfl rfl rfl ?_; clear E a; intro a E
  refine Run.nilCheck rfl E rfl rfl rfl ?_; clear E a; intro a E
  refine Run.fieldAddr rfl E rfl rfl rfl fo128_3 (rfl) ?_; clear E a; intro a E
  refine Run.move rfl E rfl rfl rfl ?_; clear E a; intro a E
  refine Run.len rfl E rfl rfl rfl Try.underlying22 ?_; clear E a; intro a E
  refine Run.move rfl E rfl rfl rfl ?_; clear E a; intro a E
  refine Run.nilCheck rfl E rfl rfl rfl ?_; clear E a; intro a E
  refine Run.fieldAddr rfl E rfl rfl rfl fo128_2 (rfl) ?_; clear E a; intro a E
  refine Run.load1 rfl rfl E S rfl rfl rfl one22 (fun _ s => s.objCell 4 3 rfl rfl) ?_; clear E a; intro a E
  refine Run.len rfl E rfl rfl rfl Try.underlying22 ?_; clear E a; intro a E
  refine Run.add rfl E rfl rfl rfl rfl (i64_ok (by omega)) ?_; clear E a; intro a E
  refine Run.load1 rfl rfl E S rfl rfl rfl one3 (fun _ s => s.objCell 4 2 rfl rfl) ?_; clear E a; intro a E
  refine Run.gtr rfl E rfl rfl rfl rfl (decide_eq_false (by omega)) ?_; clear E a; intro a E
  refine Run.assign rfl E rfl rfl rfl ?_; clear E a; intro a E
  refine Run.nil ?_
  refine then_n ?_
  refine cond_F E rfl ?_
  refine wp_skip ?_
  refine blk_n ?_
  refine then_n ?_
  refine wp_seq ?_
  refine region_drawS (n := 15) [(0, .p), (1, .p), (2, .p), (3, .p), (5, .p), (6, .p), (7, .p), (4, .t), (8, .t), (9, .p), (10, .e), (11, .l), (12, .p), (13, .p), (14, .l)] [0, 0, 2, 6, 14, 0, 32, 96, 224, 480, 992, 2046, 4095, 8191, 16383] S mixed rfl rfl (by kernel_rfl) (fun _ _ _ _ _ h => h) ?_; clear S; intro w S B_; clear B_
  refine Run.move rfl E rfl rfl rfl ?_; clear E a; intro a E
  refine Run.move rfl E rfl rfl rfl ?_; clear E a; intro a E
  refine Run.nilCheck rfl E rfl rfl rfl ?_; clear E a; intro a E
  refine Run.fieldAddr rfl E rfl rfl rfl fo128_4 (rfl) ?_; clear E a; intro a E
  refine Run.move rfl E rfl rfl rfl ?_; clear E a; intro a E
  refine Run.nilCheck rfl E rfl rfl rfl ?_; clear E a; intro a E
  refine Run.fieldAddr rfl E rfl rfl rfl fo128_3 (rfl) ?_; clear E a; intro a E
  refine Run.load1 rfl rfl E S rfl rfl rfl one32 (fun _ s => s.objCell 4 4 rfl rfl) ?_; clear E a; intro a E
  refine Run.load1 rfl rfl E S rfl rfl rfl one22 (fun _ s => s.objCell 4 3 rfl rfl) ?_; clear E a; intro a E
  refine Run.len rfl E rfl rfl rfl Try.underlying22 ?_; clear E a; intro a E
  refine Run.buildSlice (cs := [.int .i64 (bs.length : Int)]) [(0, .int .i64 (bs.length : Int))] rfl rfl E S rfl rfl rfl Try.underlying32 (by kernel_rfl) ?_; clear E a S; intro b7 w a E S B_; clear B_
  refine Run.append (news := [.int .i64 (bs.length : Int)]) (nm := sts.length + 1) 7 rfl E S rfl rfl rfl rfl rfl Try.underlying32 I3 rfl rfl rfl (objNews S 0 rfl) (by simp [Value.oneCell']) (by omega) (by omega) (by omega) ?_; clear E a S; intro A8 c9 w a E S
  replace S : St _ _ _ [.obj _ _ [_], _, _, .obj _ _ [_, _, _, _, _, _, _, _], .obj _ _ [_, _, _, _, _, _, _, _], .obj _ _ [_, _, _, _, _, _, _, _, _, _, _, _, _], _, _, _] := S
  refine Run.nilCheck rfl E rfl rfl rfl ?_; clear E a; intro a E
  refine Run.fieldAddr rfl E rfl rfl rfl fo128_4 (rfl) ?_; clear E a; intro a E
  refine Run.store (news := [.slice A8 (sts.length + 1) c9]) (cs' := [_, _, _, _, _, _, _, _, _, _, _, _, _]) (hp' := [_, _, _, _, _, _, _, _, _]) 5 rfl E S rfl rfl rfl rfl rfl sz32 rfl rfl rfl rfl ?_; clear S; intro w S
  refine Run.nil ?_
  refine then_n ?_
  refine wp_seq ?_
  refine region_plain (n := 10) [(0, .p), (1, .p), (2, .p), (3, .p), (4, .l), (5, .p), (6, .l), (7, .p), (8, .p), (9, .l)] rfl rfl ?_
  refine Run.move rfl E rfl rfl rfl ?_; clear E a; intro a E
  refine Run.move rfl E rfl rfl rfl ?_; clear E a; intro a E
  refine Run.nilCheck rfl E rfl rfl rfl ?_; clear E a; intro a E
  refine Run.fieldAddr rfl E rfl rfl rfl fo128_3 (rfl) ?_; clear E a; intro a E
  refine Run.load1 rfl rfl E S rfl rfl rfl one22 (fun _ s => s.objCell 5 3 rfl rfl) ?_; clear E a; intro a E
  refine Run.move rfl E rfl rfl rfl ?_; clear E a; intro a E
  refine Run.appendRd (news := u8s (rec18 bl s)) (nm := (bs ++ rec18 bl s).length) 6 rfl E S rfl rfl rfl rfl rfl Try.underlying22 I5 rfl rfl (S.rd 1 rfl) (u8s_one _) (by simp only [List.length_append]) (by omega) (by omega) ?_; clear E a S; intro A10 c11 w a E S
  rw [u8s_append] at S
  replace S : St _ _ _ [.obj _ _ [_], _, _, .obj _ _ [_, _, _, _, _, _, _, _], .obj _ _ [_, _, _, _, _, _, _, _], .obj _ _ [_, _, _, _, _, _, _, _, _, _, _, _, _], _, _, _] := S
  refine Run.nilCheck rfl E rfl rfl rfl ?_; clear E a; intro a E
  refine Run.fieldAddr rfl E rfl rfl rfl fo128_3 (rfl) ?_; clear E a; intro a E
  refine Run.store (news := [.slice A10 ((bs ++ rec18 bl s).length) c11]) (cs' := [_, _, _, _, _, _, _, _, _, _, _, _, _]) (hp' := [_, _, _, _, _, _, _, _, _]) 5 rfl E S rfl rfl rfl rfl rfl sz22 rfl rfl rfl rfl ?_; clear S; intro w S
  refine Run.nil ?_
  refine then_n ?_
  refine wp_seq ?_
  refine region_plain (n := 6) [(0, .p), (1, .l), (2, .e), (3, .p), (4, .p), (5, .l)] rfl rfl ?_
  refine Run.move rfl E rfl rfl rfl ?_; clear E a; intro a E
  refine Run.loadN (cs := [.int .i64 s.kind, .int .i64 s.node, .int .i64 s.phase, .int .i64 s.pos, .int .i64 s.start, .int .i64 s.depth, .int .i64 s.org, .slice D s.caps.length f]) rfl rfl E S rfl rfl rfl ag34 rfl (fun _ s => objAll s 4 rfl) ?_; clear E a; intro a E
  refine Run.call (args := [.agg #[.int .i64 s.kind, .int .i64 s.node, .int .i64 s.phase, .int .i64 s.pos, .int .i64 s.start, .int .i64 s.depth, .int .i64 s.org, .slice D s.caps.length f]]) rfl rfl E rfl rfl Try.func44 nm44 rfl rfl (own_walk (s := s) (H1.chg S.chg hDw) (by omega)) ?_; rintro e_ w ⟨P12, q13, rfl, S_⟩; refine ⟨_, rfl, (fun _ => S_.belT), ?_⟩; clear E a; intro a E
  replace S : St _ _ _ [_, .obj _ _ [_], _, _, .obj _ _ [_, _, _, _, _, _, _, _], .obj _ _ [_, _, _, _, _, _, _, _], .obj _ _ [_, _, _, _, _, _, _, _, _, _, _, _, _], _, _, _] := St.call (A := []) (R := [_, _, _, _, _, _, _, _, _]) S S_; clear S_
  refine Run.nilCheck rfl E rfl rfl rfl ?_; clear E a; intro a E
  refine Run.fieldAddr rfl E rfl rfl rfl fo128_5 (rfl) ?_; clear E a; intro a E
  refine Run.store (news := [.int .i64 s.kind, .int .i64 s.node, .int .i64 s.phase, .int .i64 s.pos, .int .i64 s.start, .int .i64 s.depth, .int .i64 s.org, .slice P12 s.caps.length q13]) (cs' := [_, _, _, _, _, _, _, _, _, _, _, _, _]) (hp' := [_, _, _, _, _, _, _, _, _, _]) 6 rfl E S rfl rfl rfl rfl rfl sz34 rfl rfl rfl rfl ?_; clear S; intro w S
  refine Run.nil ?_
  refine then_n ?_
  refine wp_seq ?_
  refine region_plain (n := 1) [(0, .p)] rfl rfl ?_
  refine Run.assign rfl E rfl rfl rfl ?_; clear E a; intro a E
  refine Run.nil ?_
  refine then_n ?_
  refine wp_ret ?_
  have S : St _ _ _ [_, _, _, _, _, _, _, _, _, _] := S.sel [1, 2, 3, 4, 5, 9, 6, 7, 8, 0] _ rfl rfl
  have S := S.drop1.drop1.drop1.drop1.drop1.drop1
  subst hb' hs'
  have e1 : (sts ++ [(bs.length : Int)]).length = sts.length + 1 := by simp
  refine ret1 E Try.results75 rfl ⟨rfl, A10, c11, A8, c9, P12, q13, ?_⟩
  rw [e1, ← ints_snoc]; exact S

theorem add_nor_l (H : Own w0 [.obj g 128 [.int .i64 (G : Int), .int .i64 (ev : Int), .int .i64 lim, .slice A bs.length c, .slice B sts.length d, .int .i64 la.kind, .int .i64 la.node, .int .i64 la.phase, .int .i64 la.pos, .int .i64 la.start, .int .i64 la.depth, .int .i64 la.org, .slice C la.caps.length e], .row (.slice A bs.length c) 5 1 bs.length (u8s bs), .row (.slice B sts.length d) 3 1 sts.length (ints sts), .row (.slice C la.caps.length e) 3 1 la.caps.length (ints la.caps)]) (H1 : Rd w0 D s.caps.length 1 (ints s.caps)) (hDw : 0 < s.caps.length → ∀ b_ o, D = some ⟨b_, o, none⟩ → b_ ∉ fps [.obj g 128 [.int .i64 (G : Int), .int .i64 (ev : Int), .int .i64 lim, .slice A bs.length c, .slice B sts.length d, .int .i64 la.kind, .int .i64 la.node, .int .i64 la.phase, .int .i64 la.pos, .int .i64 la.start, .int .i64 la.depth, .int .i64 la.org, .slice C la.caps.length e], .row (.slice A bs.length c) 5 1 bs.length (u8s bs), .row (.slice B sts.length d) 3 1 sts.length (ints sts), .row (.slice C la.caps.length e) 3 1 la.caps.length (ints la.caps)]) (hs : s.caps.length ≤ 140737488355328) (hG : G ≤ 99) (he0 : 1 ≤ ev) (hbl : bs.length ≤ 16777216) (hsl : sts.length ≤ 16777216) (hla : la.caps.length ≤ 202) (hm : sts.length % ev ≠ 0) (hwb : la.base) (hwg : la.groups = (G : Int)) (hw2 : la.caps.length ≤ 202) (hR : ¬ s.Right (G : Int)) : Calls Try.prog 75 [.pointer (some ⟨g, 0, none⟩), .agg #[.int .i64 s.kind, .int .i64 s.node, .int .i64 s.phase, .int .i64 s.pos, .int .i64 s.start, .int .i64 s.depth, .int .i64 s.org, .slice D s.caps.length f]].toArray w0 (fun r w' => r = .returned (.int .i64 11) ∧ St (fps [.obj g 128 [.int .i64 (G : Int), .int .i64 (ev : Int), .int .i64 lim, .slice A bs.length c, .slice B sts.length d, .int .i64 la.kind, .int .i64 la.node, .int .i64 la.phase, .int .i64 la.pos, .int .i64 la.start, .int .i64 la.depth, .int .i64 la.org, .slice C la.caps.length e], .row (.slice A bs.length c) 5 1 bs.length (u8s bs), .row (.slice B sts.length d) 3 1 sts.length (ints sts), .row (.slice C la.caps.length e) 3 1 la.caps.length (ints la.caps)]) w0 w' [.obj g 128 [.int .i64 (G : Int), .int .i64 (ev : Int), .int .i64 lim, .slice A bs.length c, .slice B sts.length d, .int .i64 la.kind, .int .i64 la.node, .int .i64 la.phase, .int .i64 la.pos, .int .i64 la.start, .int .i64 la.depth, .int .i64 la.org, .slice C la.caps.length e], .row (.slice A bs.length c) 5 1 bs.length (u8s bs), .row (.slice B sts.length d) 3 1 sts.length (ints sts), .row (.slice C la.caps.length e) 3 1 la.caps.length (ints la.caps)]) := by
  have S := H.st
  refine fn_start Try.func75 rfl 85 rfl rfl [(0, _), (1, _)] ⟨rfl, rfl, trivial⟩ ?_; intro a E
  refine wp_seq ?_
  refine region_plain (n := 2) [(0, .e), (1, .p)] rfl rfl ?_
  refine Run.box (cs := [.int .i64 s.kind, .int .i64 s.node, .int .i64 s.phase, .int .i64 s.pos, .int .i64 s.start, .int .i64 s.depth, .int .i64 s.org, .slice D s.caps.length f]) rfl rfl E S rfl rfl rfl rfl ?_; clear E a S; intro b1 w a E S B_; clear B_
  refine Run.assign rfl E rfl rfl rfl ?_; clear E a; intro a E
  refine Run.nil ?_
  refine then_n ?_
  refine wp_seq ?_
  refine region_plain (n := 6) [(0, .p), (1, .p), (2, .p), (3, .l), (4, .e), (5, .l)] rfl rfl ?_
  refine Run.move rfl E rfl rfl rfl ?_; clear E a; intro a E
  refine Run.nilCheck rfl E rfl rfl rfl ?_; clear E a; intro a E
  refine Run.fieldAddr rfl E rfl rfl rfl fo128_5 (rfl) ?_; clear E a; intro a E
  refine Run.loadN (cs := [.int .i64 la.kind, .int .i64 la.node, .int .i64 la.phase, .int .i64 la.pos, .int .i64 la.start, .int .i64 la.depth, .int .i64 la.org, .slice C la.caps.length e]) rfl rfl E S rfl rfl rfl ag34 rfl (fun _ s => objPart s 1 5 _ rfl rfl) ?_; clear E a; intro a E
  refine Run.alloc rfl rfl E S rfl rfl z34 rfl ?_; clear E a S; intro b2 w a E S B_; clear B_
  refine Run.store (news := [.int .i64 la.kind, .int .i64 la.node, .int .i64 la.phase, .int .i64 la.pos, .int .i64 la.start, .int .i64 la.depth, .int .i64 la.org, .slice C la.caps.length e]) (cs' := [_, _, _, _, _, _, _, _]) (hp' := [_, _, _, _, _, _]) 0 rfl E S rfl rfl rfl rfl rfl sz34 rfl rfl rfl rfl ?_; clear S; intro w S
  refine Run.nil ?_
  refine then_n ?_
  refine wp_seq ?_
  refine wp_seq ?_
  refine region_drawS (n := 8) [(0, .p), (2, .p), (3, .p), (4, .p), (5, .t), (1, .e), (6, .p), (7, .p)] [0, 1, 0, 4, 12, 28, 63, 127] S mixed rfl rfl (by kernel_rfl) (fun _ _ _ _ _ h => h) ?_; clear S; intro w S B_; clear B_
  refine Run.move rfl E rfl rfl rfl ?_; clear E a; intro a E
  refine Run.move rfl E rfl rfl rfl ?_; clear E a; intro a E
  refine Run.nilCheck rfl E rfl rfl rfl ?_; clear E a; intro a E
  refine Run.fieldAddr rfl E rfl rfl rfl fo128_1 (rfl) ?_; clear E a; intro a E
  refine Run.load1 rfl rfl E S rfl rfl rfl one3 (fun _ s => s.objCell 2 1 rfl rfl) ?_; clear E a; intro a E
  refine Run.call (args := [.pointer (some ⟨g, 0, none⟩)]) rfl rfl E rfl rfl Try.func38 nm38 rfl rfl (tape_len (A := A) (c := c) (B := B) (d := d) (C := C) (e := e) (bs := bs) (sts := sts) (la := la) (G := G) (ev := ev) (lim := lim) (St.holdsL (A := [.obj g 128 [.int .i64 (G : Int), .int .i64 (ev : Int), .int .i64 lim, .slice A bs.length c, .slice B sts.length d, .int .i64 la.kind, .int .i64 la.node, .int .i64 la.phase, .int .i64 la.pos, .int .i64 la.start, .int .i64 la.depth, .int .i64 la.org, .slice C la.caps.length e], .row (.slice A bs.length c) 5 1 bs.length (u8s bs), .row (.slice B sts.length d) 3 1 sts.length (ints sts), .row (.slice C la.caps.length e) 3 1 la.caps.length (ints la.caps)]) (R := [_, _]) (S.sel [2, 3, 4, 5, 0, 1] ([.obj g 128 [.int .i64 (G : Int), .int .i64 (ev : Int), .int .i64 lim, .slice A bs.length c, .slice B sts.length d, .int .i64 la.kind, .int .i64 la.node, .int .i64 la.phase, .int .i64 la.pos, .int .i64 la.start, .int .i64 la.depth, .int .i64 la.org, .slice C la.caps.length e], .row (.slice A bs.length c) 5 1 bs.length (u8s bs), .row (.slice B sts.length d) 3 1 sts.length (ints sts), .row (.slice C la.caps.length e) 3 1 la.caps.length (ints la.caps)] ++ [_, _]) rfl rfl))) ?_; rintro e_ w ⟨rfl, B_⟩; refine ⟨_, rfl, fun _ => B_, ?_⟩; clear E a; replace S := S.bel B_; intro a E
  clear B_
  refine Run.rem rfl E rfl rfl rfl rfl (by omega) (q := ((sts.length % ev : Nat) : Int)) (rem_nn _ _) ?_; clear E a; intro a E
  refine Run.eqi rfl E rfl rfl rfl rfl (decide_eq_false (nat0 hm)) ?_; clear E a; intro a E
  refine Run.nil ?_
  refine then_n ?_
  refine cond_F E rfl ?_
  refine wp_skip ?_
  refine then_n ?_
  refine wp_seq ?_
  refine region_plain (n := 8) [(0, .l), (1, .l), (2, .e), (3, .p), (4, .p), (5, .p), (6, .p), (7, .p)] rfl rfl ?_
  refine Run.loadN (cs := [.int .i64 la.kind, .int .i64 la.node, .int .i64 la.phase, .int .i64 la.pos, .int .i64 la.start, .int .i64 la.depth, .int .i64 la.org, .slice C la.caps.length e]) rfl rfl E S rfl rfl rfl ag34 rfl (fun _ s => objAll s 0 rfl) ?_; clear E a; intro a E
  refine Run.loadN (cs := [.int .i64 s.kind, .int .i64 s.node, .int .i64 s.phase, .int .i64 s.pos, .int .i64 s.start, .int .i64 s.depth, .int .i64 s.org, .slice D s.caps.length f]) rfl rfl E S rfl rfl rfl ag34 rfl (fun _ s => objAll s 1 rfl) ?_; clear E a; intro a E
  refine Run.call (args := [.agg #[.int .i64 la.kind, .int .i64 la.node, .int .i64 la.phase, .int .i64 la.pos, .int .i64 la.start, .int .i64 la.depth, .int .i64 la.org, .slice C la.caps.length e], .agg #[.int .i64 s.kind, .int .i64 s.node, .int .i64 s.phase, .int .i64 s.pos, .int .i64 s.start, .int .i64 s.depth, .int .i64 s.org, .slice D s.caps.length f]]) rfl rfl E rfl rfl Try.func62 nm62 rfl rfl (dbytes_noright (s := la) (t := s) (S.rd 5 rfl) (H1.chg S.chg hDw) (by omega) (by omega) hwb (by rw [hwg]; exact hR)) ?_; rintro e_ w ⟨rfl, B_⟩; refine ⟨_, rfl, fun _ => B_, ?_⟩; clear E a; replace S := S.bel B_; intro a E
  clear B_
  refine Run.move rfl E rfl rfl rfl ?_; clear E a; intro a E
  refine Run.extract rfl E rfl rfl rfl rfl ?_; clear E a; intro a E
  refine Run.extract rfl E rfl rfl rfl rfl ?_; clear E a; intro a E
  refine Run.assign rfl E rfl rfl rfl ?_; clear E a; intro a E
  refine Run.assign rfl E rfl rfl rfl ?_; clear E a; intro a E
  refine Run.nil ?_
  refine then_n ?_
  refine wp_seq ?_
  refine wp_block ?_
  refine wp_seq ?_
  refine region_drawS (n := 12) [(1, .p), (2, .p), (3, .p), (0, .t), (4, .t), (5, .e), (6, .p), (7, .p), (8, .p), (9, .p), (10, .p), (11, .p)] [0, 0, 2, 6, 14, 31, 63, 127, 255, 511, 1023, 2047] S mixed rfl rfl (by kernel_rfl) (fun _ _ _ _ _ h => h) ?_; clear S; intro w S B_; clear B_
  refine Run.move rfl E rfl rfl rfl ?_; clear E a; intro a E
  refine Run.nilCheck rfl E rfl rfl rfl ?_; clear E a; intro a E
  refine Run.fieldAddr rfl E rfl rfl rfl fo128_0 (rfl) ?_; clear E a; intro a E
  refine Run.loadN (cs := [.int .i64 s.kind, .int .i64 s.node, .int .i64 s.phase, .int .i64 s.pos, .int .i64 s.start, .int .i64 s.depth, .int .i64 s.org, .slice D s.caps.length f]) rfl rfl E S rfl rfl rfl ag34 rfl (fun _ s => objAll s 1 rfl) ?_; clear E a; intro a E
  refine Run.load1 rfl rfl E S rfl rfl rfl one3 (fun _ s => s.objCell 2 0 rfl rfl) ?_; clear E a; intro a E
  refine Run.call (args := [.agg #[.int .i64 s.kind, .int .i64 s.node, .int .i64 s.phase, .int .i64 s.pos, .int .i64 s.start, .int .i64 s.depth, .int .i64 s.org, .slice D s.caps.length f], .int .i64 (G : Int)]) rfl rfl E rfl rfl Try.func26 nm26 rfl rfl (right_walk (s := s) (g := (G : Int)) (H1.chg S.chg hDw) (by omega)) ?_; rintro e_ w ⟨rfl, B_⟩; refine ⟨_, rfl, fun _ => B_, ?_⟩; clear E a; replace S := S.bel B_; intro a E
  clear B_
  replace E := E.setb 37 rfl (decide_eq_false hR)
  refine Run.not rfl E rfl rfl rfl rfl ?_; clear E a; intro a E
  refine Run.move rfl E rfl rfl rfl ?_; clear E a; intro a E
  refine Run.off rfl E rfl rfl ?_; clear E a; intro a E
  refine Run.off rfl E rfl rfl ?_; clear E a; intro a E
  refine Run.pickT rfl E rfl rfl rfl rfl ?_; clear E a; intro a E
  refine Run.assign rfl E rfl rfl rfl ?_; clear E a; intro a E
  refine Run.nil ?_
  refine then_n ?_
  refine cond_T E rfl ?_
  refine wp_seq ?_
  refine region_plain (n := 1) [(0, .p)] rfl rfl ?_
  refine Run.assign rfl E rfl rfl rfl ?_; clear E a; intro a E
  refine Run.nil ?_
  refine then_n ?_
  refine wp_ret ?_
  refine blk_r ?_
  refine then_r ?_
  have S : St _ _ _ [_, _, _, _, _, _] := S.sel [0, 1, 2, 3, 4, 5] _ rfl rfl
  have S := S.drop1.drop1
  exact ret1 E Try.results75 rfl ⟨rfl, S⟩

theorem add_full_l (H : Own w0 [.obj g 128 [.int .i64 (G : Int), .int .i64 (ev : Int), .int .i64 lim, .slice A bs.length c, .slice B sts.length d, .int .i64 la.kind, .int .i64 la.node, .int .i64 la.phase, .int .i64 la.pos, .int .i64 la.start, .int .i64 la.depth, .int .i64 la.org, .slice C la.caps.length e], .row (.slice A bs.length c) 5 1 bs.length (u8s bs), .row (.slice B sts.length d) 3 1 sts.length (ints sts), .row (.slice C la.caps.length e) 3 1 la.caps.length (ints la.caps)]) (H1 : Rd w0 D s.caps.length 1 (ints s.caps)) (hDw : 0 < s.caps.length → ∀ b_ o, D = some ⟨b_, o, none⟩ → b_ ∉ fps [.obj g 128 [.int .i64 (G : Int), .int .i64 (ev : Int), .int .i64 lim, .slice A bs.length c, .slice B sts.length d, .int .i64 la.kind, .int .i64 la.node, .int .i64 la.phase, .int .i64 la.pos, .int .i64 la.start, .int .i64 la.depth, .int .i64 la.org, .slice C la.caps.length e], .row (.slice A bs.length c) 5 1 bs.length (u8s bs), .row (.slice B sts.length d) 3 1 sts.length (ints sts), .row (.slice C la.caps.length e) 3 1 la.caps.length (ints la.caps)]) (hs : s.caps.length ≤ 140737488355328) (hG : G ≤ 99) (he0 : 1 ≤ ev) (hbl : bs.length ≤ 16777216) (hsl : sts.length ≤ 16777216) (hla : la.caps.length ≤ 202) (hm : sts.length % ev ≠ 0) (hwb : la.base) (hwg : la.groups = (G : Int)) (hw2 : la.caps.length ≤ 202) (hR : s.Right (G : Int)) (hf : lim < ((bs ++ rec18 la s).length : Int)) : Calls Try.prog 75 [.pointer (some ⟨g, 0, none⟩), .agg #[.int .i64 s.kind, .int .i64 s.node, .int .i64 s.phase, .int .i64 s.pos, .int .i64 s.start, .int .i64 s.depth, .int .i64 s.org, .slice D s.caps.length f]].toArray w0 (fun r w' => r = .returned (.int .i64 13) ∧ St (fps [.obj g 128 [.int .i64 (G : Int), .int .i64 (ev : Int), .int .i64 lim, .slice A bs.length c, .slice B sts.length d, .int .i64 la.kind, .int .i64 la.node, .int .i64 la.phase, .int .i64 la.pos, .int .i64 la.start, .int .i64 la.depth, .int .i64 la.org, .slice C la.caps.length e], .row (.slice A bs.length c) 5 1 bs.length (u8s bs), .row (.slice B sts.length d) 3 1 sts.length (ints sts), .row (.slice C la.caps.length e) 3 1 la.caps.length (ints la.caps)]) w0 w' [.obj g 128 [.int .i64 (G : Int), .int .i64 (ev : Int), .int .i64 lim, .slice A bs.length c, .slice B sts.length d, .int .i64 la.kind, .int .i64 la.node, .int .i64 la.phase, .int .i64 la.pos, .int .i64 la.start, .int .i64 la.depth, .int .i64 la.org, .slice C la.caps.length e], .row (.slice A bs.length c) 5 1 bs.length (u8s bs), .row (.slice B sts.length d) 3 1 sts.length (ints sts), .row (.slice C la.caps.length e) 3 1 la.caps.length (ints la.caps)]) := by
  have S := H.st
  have hcl := right_capl hR
  have hrl := rec18_len la s hwb (by rw [hwg]; exact hR)
  have hnl : (bs ++ rec18 la s).length = bs.length + (rec18 la s).length := List.length_append
  refine fn_start Try.func75 rfl 85 rfl rfl [(0, _), (1, _)] ⟨rfl, rfl, trivial⟩ ?_; intro a E
  refine wp_seq ?_
  refine region_plain (n := 2) [(0, .e), (1, .p)] rfl rfl ?_
  refine Run.box (cs := [.int .i64 s.kind, .int .i64 s.node, .int .i64 s.phase, .int .i64 s.pos, .int .i64 s.start, .int .i64 s.depth, .int .i64 s.org, .slice D s.caps.length f]) rfl rfl E S rfl rfl rfl rfl ?_; clear E a S; intro b1 w a E S B_; clear B_
  refine Run.assign rfl E rfl rfl rfl ?_; clear E a; intro a E
  refine Run.nil ?_
  refine then_n ?_
  refine wp_seq ?_
  refine region_plain (n := 6) [(0, .p), (1, .p), (2, .p), (3, .l), (4, .e), (5, .l)] rfl rfl ?_
  refine Run.move rfl E rfl rfl rfl ?_; clear E a; intro a E
  refine Run.nilCheck rfl E rfl rfl rfl ?_; clear E a; intro a E
  refine Run.fieldAddr rfl E rfl rfl rfl fo128_5 (rfl) ?_; clear E a; intro a E
  refine Run.loadN (cs := [.int .i64 la.kind, .int .i64 la.node, .int .i64 la.phase, .int .i64 la.pos, .int .i64 la.start, .int .i64 la.depth, .int .i64 la.org, .slice C la.caps.length e]) rfl rfl E S rfl rfl rfl ag34 rfl (fun _ s => objPart s 1 5 _ rfl rfl) ?_; clear E a; intro a E
  refine Run.alloc rfl rfl E S rfl rfl z34 rfl ?_; clear E a S; intro b2 w a E S B_; clear B_
  refine Run.store (news := [.int .i64 la.kind, .int .i64 la.node, .int .i64 la.phase, .int .i64 la.pos, .int .i64 la.start, .int .i64 la.depth, .int .i64 la.org, .slice C la.caps.length e]) (cs' := [_, _, _, _, _, _, _, _]) (hp' := [_, _, _, _, _, _]) 0 rfl E S rfl rfl rfl rfl rfl sz34 rfl rfl rfl rfl ?_; clear S; intro w S
  refine Run.nil ?_
  refine then_n ?_
  refine wp_seq ?_
  refine wp_seq ?_
  refine region_drawS (n := 8) [(0, .p), (2, .p), (3, .p), (4, .p), (5, .t), (1, .e), (6, .p), (7, .p)] [0, 1, 0, 4, 12, 28, 63, 127] S mixed rfl rfl (by kernel_rfl) (fun _ _ _ _ _ h => h) ?_; clear S; intro w S B_; clear B_
  refine Run.move rfl E rfl rfl rfl ?_; clear E a; intro a E
  refine Run.move rfl E rfl rfl rfl ?_; clear E a; intro a E
  refine Run.nilCheck rfl E rfl rfl rfl ?_; clear E a; intro a E
  refine Run.fieldAddr rfl E rfl rfl rfl fo128_1 (rfl) ?_; clear E a; intro a E
  refine Run.load1 rfl rfl E S rfl rfl rfl one3 (fun _ s => s.objCell 2 1 rfl rfl) ?_; clear E a; intro a E
  refine Run.call (args := [.pointer (some ⟨g, 0, none⟩)]) rfl rfl E rfl rfl Try.func38 nm38 rfl rfl (tape_len (A := A) (c := c) (B := B) (d := d) (C := C) (e := e) (bs := bs) (sts := sts) (la := la) (G := G) (ev := ev) (lim := lim) (St.holdsL (A := [.obj g 128 [.int .i64 (G : Int), .int .i64 (ev : Int), .int .i64 lim, .slice A bs.length c, .slice B sts.length d, .int .i64 la.kind, .int .i64 la.node, .int .i64 la.phase, .int .i64 la.pos, .int .i64 la.start, .int .i64 la.depth, .int .i64 la.org, .slice C la.caps.length e], .row (.slice A bs.length c) 5 1 bs.length (u8s bs), .row (.slice B sts.length d) 3 1 sts.length (ints sts), .row (.slice C la.caps.length e) 3 1 la.caps.length (ints la.caps)]) (R := [_, _]) (S.sel [2, 3, 4, 5, 0, 1] ([.obj g 128 [.int .i64 (G : Int), .int .i64 (ev : Int), .int .i64 lim, .slice A bs.length c, .slice B sts.length d, .int .i64 la.kind, .int .i64 la.node, .int .i64 la.phase, .int .i64 la.pos, .int .i64 la.start, .int .i64 la.depth, .int .i64 la.org, .slice C la.caps.length e], .row (.slice A bs.length c) 5 1 bs.length (u8s bs), .row (.slice B sts.length d) 3 1 sts.length (ints sts), .row (.slice C la.caps.length e) 3 1 la.caps.length (ints la.caps)] ++ [_, _]) rfl rfl))) ?_; rintro e_ w ⟨rfl, B_⟩; refine ⟨_, rfl, fun _ => B_, ?_⟩; clear E a; replace S := S.bel B_; intro a E
  clear B_
  refine Run.rem rfl E rfl rfl rfl rfl (by omega) (q := ((sts.length % ev : Nat) : Int)) (rem_nn _ _) ?_; clear E a; intro a E
  refine Run.eqi rfl E rfl rfl rfl rfl (decide_eq_false (nat0 hm)) ?_; clear E a; intro a E
  refine Run.nil ?_
  refine then_n ?_
  refine cond_F E rfl ?_
  refine wp_skip ?_
  refine then_n ?_
  refine wp_seq ?_
  refine region_plain (n := 8) [(0, .l), (1, .l), (2, .e), (3, .p), (4, .p), (5, .p), (6, .p), (7, .p)] rfl rfl ?_
  refine Run.loadN (cs := [.int .i64 la.kind, .int .i64 la.node, .int .i64 la.phase, .int .i64 la.pos, .int .i64 la.start, .int .i64 la.depth, .int .i64 la.org, .slice C la.caps.length e]) rfl rfl E S rfl rfl rfl ag34 rfl (fun _ s => objAll s 0 rfl) ?_; clear E a; intro a E
  refine Run.loadN (cs := [.int .i64 s.kind, .int .i64 s.node, .int .i64 s.phase, .int .i64 s.pos, .int .i64 s.start, .int .i64 s.depth, .int .i64 s.org, .slice D s.caps.length f]) rfl rfl E S rfl rfl rfl ag34 rfl (fun _ s => objAll s 1 rfl) ?_; clear E a; intro a E
  refine Run.call (args := [.agg #[.int .i64 la.kind, .int .i64 la.node, .int .i64 la.phase, .int .i64 la.pos, .int .i64 la.start, .int .i64 la.depth, .int .i64 la.org, .slice C la.caps.length e], .agg #[.int .i64 s.kind, .int .i64 s.node, .int .i64 s.phase, .int .i64 s.pos, .int .i64 s.start, .int .i64 s.depth, .int .i64 s.org, .slice D s.caps.length f]]) rfl rfl E rfl rfl Try.func62 nm62 rfl rfl (dbytes_walk (s := la) (t := s) (S.rd 5 rfl) (H1.chg S.chg hDw) (by omega) (by omega) hwb (by rw [hwg]; exact hR)) ?_; rintro e_ w ⟨X3, q4, rfl, S_⟩; refine ⟨_, rfl, (fun _ => S_.belT), ?_⟩; clear E a; intro a E
  replace S : St _ _ _ [_, .obj _ _ [_, _, _, _, _, _, _, _], .obj _ _ [_, _, _, _, _, _, _, _], .obj _ _ [_, _, _, _, _, _, _, _, _, _, _, _, _], _, _, _] := St.call (A := []) (R := [_, _, _, _, _, _]) S S_; clear S_
  refine Run.move rfl E rfl rfl rfl ?_; clear E a; intro a E
  refine Run.extract rfl E rfl rfl rfl rfl ?_; clear E a; intro a E
  refine Run.extract rfl E rfl rfl rfl rfl ?_; clear E a; intro a E
  refine Run.assign rfl E rfl rfl rfl ?_; clear E a; intro a E
  refine Run.assign rfl E rfl rfl rfl ?_; clear E a; intro a E
  refine Run.nil ?_
  refine then_n ?_
  refine wp_seq ?_
  refine wp_block ?_
  refine wp_seq ?_
  refine region_drawS (n := 12) [(1, .p), (2, .p), (3, .p), (0, .t), (4, .t), (5, .e), (6, .p), (7, .p), (8, .p), (9, .p), (10, .p), (11, .p)] [0, 0, 2, 6, 14, 31, 63, 127, 255, 511, 1023, 2047] S mixed rfl rfl (by kernel_rfl) (fun _ _ _ _ _ h => h) ?_; clear S; intro w S B_; clear B_
  refine Run.move rfl E rfl rfl rfl ?_; clear E a; intro a E
  refine Run.nilCheck rfl E rfl rfl rfl ?_; clear E a; intro a E
  refine Run.fieldAddr rfl E rfl rfl rfl fo128_0 (rfl) ?_; clear E a; intro a E
  refine Run.loadN (cs := [.int .i64 s.kind, .int .i64 s.node, .int .i64 s.phase, .int .i64 s.pos, .int .i64 s.start, .int .i64 s.depth, .int .i64 s.org, .slice D s.caps.length f]) rfl rfl E S rfl rfl rfl ag34 rfl (fun _ s => objAll s 2 rfl) ?_; clear E a; intro a E
  refine Run.load1 rfl rfl E S rfl rfl rfl one3 (fun _ s => s.objCell 3 0 rfl rfl) ?_; clear E a; intro a E
  refine Run.call (args := [.agg #[.int .i64 s.kind, .int .i64 s.node, .int .i64 s.phase, .int .i64 s.pos, .int .i64 s.start, .int .i64 s.depth, .int .i64 s.org, .slice D s.caps.length f], .int .i64 (G : Int)]) rfl rfl E rfl rfl Try.func26 nm26 rfl rfl (right_walk (s := s) (g := (G : Int)) (H1.chg S.chg hDw) (by omega)) ?_; rintro e_ w ⟨rfl, B_⟩; refine ⟨_, rfl, fun _ => B_, ?_⟩; clear E a; replace S := S.bel B_; intro a E
  clear B_
  replace E := E.setb 37 rfl (decide_eq_true hR)
  refine Run.not rfl E rfl rfl rfl rfl ?_; clear E a; intro a E
  refine Run.move rfl E rfl rfl rfl ?_; clear E a; intro a E
  refine Run.move rfl E rfl rfl rfl ?_; clear E a; intro a E
  refine Run.nei rfl E rfl rfl rfl rfl (b := false) (by decide) ?_; clear E a; intro a E
  refine Run.pickF rfl E rfl rfl rfl rfl ?_; clear E a; intro a E
  refine Run.assign rfl E rfl rfl rfl ?_; clear E a; intro a E
  refine Run.nil ?_
  refine then_n ?_
  refine cond_F E rfl ?_
  refine wp_seq ?_
  refine region_drawS (n := 14) [(0, .p), (1, .p), (2, .p), (5, .p), (6, .p), (8, .p), (9, .p), (10, .p), (3, .t), (4, .p), (7, .p), (11, .t), (12, .p), (13, .p)] [0, 1, 3, 7, 15, 0, 32, 127, 0, 256, 768, 1792, 4095, 8191] S mixed rfl rfl (by kernel_rfl) (fun _ _ _ _ _ h => h) ?_; clear S; intro w S B_; clear B_
  refine Run.move rfl E rfl rfl rfl ?_; clear E a; intro a E
  refine Run.nilCheck rfl E rfl rfl rfl ?_; clear E a; intro a E
  refine Run.fieldAddr rfl E rfl rfl rfl fo128_3 (rfl) ?_; clear E a; intro a E
  refine Run.move rfl E rfl rfl rfl ?_; clear E a; intro a E
  refine Run.len rfl E rfl rfl rfl Try.underlying22 ?_; clear E a; intro a E
  refine Run.move rfl E rfl rfl rfl ?_; clear E a; intro a E
  refine Run.nilCheck rfl E rfl rfl rfl ?_; clear E a; intro a E
  refine Run.fieldAddr rfl E rfl rfl rfl fo128_2 (rfl) ?_; clear E a; intro a E
  refine Run.load1 rfl rfl E S rfl rfl rfl one22 (fun _ s => s.objCell 3 3 rfl rfl) ?_; clear E a; intro a E
  refine Run.len rfl E rfl rfl rfl Try.underlying22 ?_; clear E a; intro a E
  refine Run.add rfl E rfl rfl rfl rfl (i64_ok (by omega)) ?_; clear E a; intro a E
  refine Run.load1 rfl rfl E S rfl rfl rfl one3 (fun _ s => s.objCell 3 2 rfl rfl) ?_; clear E a; intro a E
  refine Run.gtr rfl E rfl rfl rfl rfl (decide_eq_true (by omega)) ?_; clear E a; intro a E
  refine Run.assign rfl E rfl rfl rfl ?_; clear E a; intro a E
  refine Run.nil ?_
  refine then_n ?_
  refine cond_T E rfl ?_
  refine wp_seq ?_
  refine region_plain (n := 1) [(0, .p)] rfl rfl ?_
  refine Run.assign rfl E rfl rfl rfl ?_; clear E a; intro a E
  refine Run.nil ?_
  refine then_n ?_
  refine wp_ret ?_
  refine blk_r ?_
  refine then_r ?_
  have S : St _ _ _ [_, _, _, _, _, _, _] := S.sel [0, 1, 2, 3, 4, 5, 6] _ rfl rfl
  have S := S.drop1.drop1.drop1
  exact ret1 E Try.results75 rfl ⟨rfl, S⟩

theorem add_ok_l {bs' : List Nat} {sts' : List Int} (H : Own w0 [.obj g 128 [.int .i64 (G : Int), .int .i64 (ev : Int), .int .i64 lim, .slice A bs.length c, .slice B sts.length d, .int .i64 la.kind, .int .i64 la.node, .int .i64 la.phase, .int .i64 la.pos, .int .i64 la.start, .int .i64 la.depth, .int .i64 la.org, .slice C la.caps.length e], .row (.slice A bs.length c) 5 1 bs.length (u8s bs), .row (.slice B sts.length d) 3 1 sts.length (ints sts), .row (.slice C la.caps.length e) 3 1 la.caps.length (ints la.caps)]) (H1 : Rd w0 D s.caps.length 1 (ints s.caps)) (hDw : 0 < s.caps.length → ∀ b_ o, D = some ⟨b_, o, none⟩ → b_ ∉ fps [.obj g 128 [.int .i64 (G : Int), .int .i64 (ev : Int), .int .i64 lim, .slice A bs.length c, .slice B sts.length d, .int .i64 la.kind, .int .i64 la.node, .int .i64 la.phase, .int .i64 la.pos, .int .i64 la.start, .int .i64 la.depth, .int .i64 la.org, .slice C la.caps.length e], .row (.slice A bs.length c) 5 1 bs.length (u8s bs), .row (.slice B sts.length d) 3 1 sts.length (ints sts), .row (.slice C la.caps.length e) 3 1 la.caps.length (ints la.caps)]) (hs : s.caps.length ≤ 140737488355328) (hG : G ≤ 99) (he0 : 1 ≤ ev) (hbl : bs.length ≤ 16777216) (hsl : sts.length ≤ 16777216) (hla : la.caps.length ≤ 202) (hm : sts.length % ev ≠ 0) (hwb : la.base) (hwg : la.groups = (G : Int)) (hw2 : la.caps.length ≤ 202) (hR : s.Right (G : Int)) (hf : ((bs ++ rec18 la s).length : Int) ≤ lim) (hb' : bs ++ rec18 la s = bs') (hs' : sts ++ [(bs.length : Int)] = sts') : Calls Try.prog 75 [.pointer (some ⟨g, 0, none⟩), .agg #[.int .i64 s.kind, .int .i64 s.node, .int .i64 s.phase, .int .i64 s.pos, .int .i64 s.start, .int .i64 s.depth, .int .i64 s.org, .slice D s.caps.length f]].toArray w0 (fun r w' => r = .returned (.int .i64 0) ∧ ∃ A' c' B' d' C' e', St (fps [.obj g 128 [.int .i64 (G : Int), .int .i64 (ev : Int), .int .i64 lim, .slice A bs.length c, .slice B sts.length d, .int .i64 la.kind, .int .i64 la.node, .int .i64 la.phase, .int .i64 la.pos, .int .i64 la.start, .int .i64 la.depth, .int .i64 la.org, .slice C la.caps.length e], .row (.slice A bs.length c) 5 1 bs.length (u8s bs), .row (.slice B sts.length d) 3 1 sts.length (ints sts), .row (.slice C la.caps.length e) 3 1 la.caps.length (ints la.caps)]) w0 w' [.obj g 128 [.int .i64 (G : Int), .int .i64 (ev : Int), .int .i64 lim, .slice (A') ((bs').length) (c'), .slice (B') ((sts').length) (d'), .int .i64 s.kind, .int .i64 s.node, .int .i64 s.phase, .int .i64 s.pos, .int .i64 s.start, .int .i64 s.depth, .int .i64 s.org, .slice (C') s.caps.length (e')], .row (.slice (A') ((bs').length) (c')) 5 1 ((bs').length) (u8s (bs')), .row (.slice (B') ((sts').length) (d')) 3 1 ((sts').length) (ints (sts')), .row (.slice (C') s.caps.length (e')) 3 1 s.caps.length (ints s.caps)]) := by
  have S := H.st
  have hcl := right_capl hR
  have hrl := rec18_len la s hwb (by rw [hwg]; exact hR)
  have hnl : (bs ++ rec18 la s).length = bs.length + (rec18 la s).length := List.length_append
  refine fn_start Try.func75 rfl 85 rfl rfl [(0, _), (1, _)] ⟨rfl, rfl, trivial⟩ ?_; intro a E
  refine wp_seq ?_
  refine region_plain (n := 2) [(0, .e), (1, .p)] rfl rfl ?_
  refine Run.box (cs := [.int .i64 s.kind, .int .i64 s.node, .int .i64 s.phase, .int .i64 s.pos, .int .i64 s.start, .int .i64 s.depth, .int .i64 s.org, .slice D s.caps.length f]) rfl rfl E S rfl rfl rfl rfl ?_; clear E a S; intro b1 w a E S B_; clear B_
  refine Run.assign rfl E rfl rfl rfl ?_; clear E a; intro a E
  refine Run.nil ?_
  refine then_n ?_
  refine wp_seq ?_
  refine region_plain (n := 6) [(0, .p), (1, .p), (2, .p), (3, .l), (4, .e), (5, .l)] rfl rfl ?_
  refine Run.move rfl E rfl rfl rfl ?_; clear E a; intro a E
  refine Run.nilCheck rfl E rfl rfl rfl ?_; clear E a; intro a E
  refine Run.fieldAddr rfl E rfl rfl rfl fo128_5 (rfl) ?_; clear E a; intro a E
  refine Run.loadN (cs := [.int .i64 la.kind, .int .i64 la.node, .int .i64 la.phase, .int .i64 la.pos, .int .i64 la.start, .int .i64 la.depth, .int .i64 la.org, .slice C la.caps.length e]) rfl rfl E S rfl rfl rfl ag34 rfl (fun _ s => objPart s 1 5 _ rfl rfl) ?_; clear E a; intro a E
  refine Run.alloc rfl rfl E S rfl rfl z34 rfl ?_; clear E a S; intro b2 w a E S B_; clear B_
  refine Run.store (news := [.int .i64 la.kind, .int .i64 la.node, .int .i64 la.phase, .int .i64 la.pos, .int .i64 la.start, .int .i64 la.depth, .int .i64 la.org, .slice C la.caps.length e]) (cs' := [_, _, _, _, _, _, _, _]) (hp' := [_, _, _, _, _, _]) 0 rfl E S rfl rfl rfl rfl rfl sz34 rfl rfl rfl rfl ?_; clear S; intro w S
  refine Run.nil ?_
  refine then_n ?_
  refine wp_seq ?_
  refine wp_seq ?_
  refine region_drawS (n := 8) [(0, .p), (2, .p), (3, .p), (4, .p), (5, .t), (1, .e), (6, .p), (7, .p)] [0, 1, 0, 4, 12, 28, 63, 127] S mixed rfl rfl (by kernel_rfl) (fun _ _ _ _ _ h => h) ?_; clear S; intro w S B_; clear B_
  refine Run.move rfl E rfl rfl rfl ?_; clear E a; intro a E
  refine Run.move rfl E rfl rfl rfl ?_; clear E a; intro a E
  refine Run.nilCheck rfl E rfl rfl rfl ?_; clear E a; intro a E
  refine Run.fieldAddr rfl E rfl rfl rfl fo128_1 (rfl) ?_; clear E a; intro a E
  refine Run.load1 rfl rfl E S rfl rfl rfl one3 (fun _ s => s.objCell 2 1 rfl rfl) ?_; clear E a; intro a E
  refine Run.call (args := [.pointer (some ⟨g, 0, none⟩)]) rfl rfl E rfl rfl Try.func38 nm38 rfl rfl (tape_len (A := A) (c := c) (B := B) (d := d) (C := C) (e := e) (bs := bs) (sts := sts) (la := la) (G := G) (ev := ev) (lim := lim) (St.holdsL (A := [.obj g 128 [.int .i64 (G : Int), .int .i64 (ev : Int), .int .i64 lim, .slice A bs.length c, .slice B sts.length d, .int .i64 la.kind, .int .i64 la.node, .int .i64 la.phase, .int .i64 la.pos, .int .i64 la.start, .int .i64 la.depth, .int .i64 la.org, .slice C la.caps.length e], .row (.slice A bs.length c) 5 1 bs.length (u8s bs), .row (.slice B sts.length d) 3 1 sts.length (ints sts), .row (.slice C la.caps.length e) 3 1 la.caps.length (ints la.caps)]) (R := [_, _]) (S.sel [2, 3, 4, 5, 0, 1] ([.obj g 128 [.int .i64 (G : Int), .int .i64 (ev : Int), .int .i64 lim, .slice A bs.length c, .slice B sts.length d, .int .i64 la.kind, .int .i64 la.node, .int .i64 la.phase, .int .i64 la.pos, .int .i64 la.start, .int .i64 la.depth, .int .i64 la.org, .slice C la.caps.length e], .row (.slice A bs.length c) 5 1 bs.length (u8s bs), .row (.slice B sts.length d) 3 1 sts.length (ints sts), .row (.slice C la.caps.length e) 3 1 la.caps.length (ints la.caps)] ++ [_, _]) rfl rfl))) ?_; rintro e_ w ⟨rfl, B_⟩; refine ⟨_, rfl, fun _ => B_, ?_⟩; clear E a; replace S := S.bel B_; intro a E
  clear B_
  refine Run.rem rfl E rfl rfl rfl rfl (by omega) (q := ((sts.length % ev : Nat) : Int)) (rem_nn _ _) ?_; clear E a; intro a E
  refine Run.eqi rfl E rfl rfl rfl rfl (decide_eq_false (nat0 hm)) ?_; clear E a; intro a E
  refine Run.nil ?_
  refine then_n ?_
  refine cond_F E rfl ?_
  refine wp_skip ?_
  refine then_n ?_
  refine wp_seq ?_
  refine region_plain (n := 8) [(0, .l), (1, .l), (2, .e), (3, .p), (4, .p), (5, .p), (6, .p), (7, .p)] rfl rfl ?_
  refine Run.loadN (cs := [.int .i64 la.kind, .int .i64 la.node, .int .i64 la.phase, .int .i64 la.pos, .int .i64 la.start, .int .i64 la.depth, .int .i64 la.org, .slice C la.caps.length e]) rfl rfl E S rfl rfl rfl ag34 rfl (fun _ s => objAll s 0 rfl) ?_; clear E a; intro a E
  refine Run.loadN (cs := [.int .i64 s.kind, .int .i64 s.node, .int .i64 s.phase, .int .i64 s.pos, .int .i64 s.start, .int .i64 s.depth, .int .i64 s.org, .slice D s.caps.length f]) rfl rfl E S rfl rfl rfl ag34 rfl (fun _ s => objAll s 1 rfl) ?_; clear E a; intro a E
  refine Run.call (args := [.agg #[.int .i64 la.kind, .int .i64 la.node, .int .i64 la.phase, .int .i64 la.pos, .int .i64 la.start, .int .i64 la.depth, .int .i64 la.org, .slice C la.caps.length e], .agg #[.int .i64 s.kind, .int .i64 s.node, .int .i64 s.phase, .int .i64 s.pos, .int .i64 s.start, .int .i64 s.depth, .int .i64 s.org, .slice D s.caps.length f]]) rfl rfl E rfl rfl Try.func62 nm62 rfl rfl (dbytes_walk (s := la) (t := s) (S.rd 5 rfl) (H1.chg S.chg hDw) (by omega) (by omega) hwb (by rw [hwg]; exact hR)) ?_; rintro e_ w ⟨X3, q4, rfl, S_⟩; refine ⟨_, rfl, (fun _ => S_.belT), ?_⟩; clear E a; intro a E
  replace S : St _ _ _ [_, .obj _ _ [_, _, _, _, _, _, _, _], .obj _ _ [_, _, _, _, _, _, _, _], .obj _ _ [_, _, _, _, _, _, _, _, _, _, _, _, _], _, _, _] := St.call (A := []) (R := [_, _, _, _, _, _]) S S_; clear S_
  refine Run.move rfl E rfl rfl rfl ?_; clear E a; intro a E
  refine Run.extract rfl E rfl rfl rfl rfl ?_; clear E a; intro a E
  refine Run.extract rfl E rfl rfl rfl rfl ?_; clear E a; intro a E
  refine Run.assign rfl E rfl rfl rfl ?_; clear E a; intro a E
  refine Run.assign rfl E rfl rfl rfl ?_; clear E a; intro a E
  refine Run.nil ?_
  refine then_n ?_
  refine wp_seq ?_
  refine wp_block ?_
  refine wp_seq ?_
  refine region_drawS (n := 12) [(1, .p), (2, .p), (3, .p), (0, .t), (4, .t), (5, .e), (6, .p), (7, .p), (8, .p), (9, .p), (10, .p), (11, .p)] [0, 0, 2, 6, 14, 31, 63, 127, 255, 511, 1023, 2047] S mixed rfl rfl (by kernel_rfl) (fun _ _ _ _ _ h => h) ?_; clear S; intro w S B_; clear B_
  refine Run.move rfl E rfl rfl rfl ?_; clear E a; intro a E
  refine Run.nilCheck rfl E rfl rfl rfl ?_; clear E a; intro a E
  refine Run.fieldAddr rfl E rfl rfl rfl fo128_0 (rfl) ?_; clear E a; intro a E
  refine Run.loadN (cs := [.int .i64 s.kind, .int .i64 s.node, .int .i64 s.phase, .int .i64 s.pos, .int .i64 s.start, .int .i64 s.depth, .int .i64 s.org, .slice D s.caps.length f]) rfl rfl E S rfl rfl rfl ag34 rfl (fun _ s => objAll s 2 rfl) ?_; clear E a; intro a E
  refine Run.load1 rfl rfl E S rfl rfl rfl one3 (fun _ s => s.objCell 3 0 rfl rfl) ?_; clear E a; intro a E
  refine Run.call (args := [.agg #[.int .i64 s.kind, .int .i64 s.node, .int .i64 s.phase, .int .i64 s.pos, .int .i64 s.start, .int .i64 s.depth, .int .i64 s.org, .slice D s.caps.length f], .int .i64 (G : Int)]) rfl rfl E rfl rfl Try.func26 nm26 rfl rfl (right_walk (s := s) (g := (G : Int)) (H1.chg S.chg hDw) (by omega)) ?_; rintro e_ w ⟨rfl, B_⟩; refine ⟨_, rfl, fun _ => B_, ?_⟩; clear E a; replace S := S.bel B_; intro a E
  clear B_
  replace E := E.setb 37 rfl (decide_eq_true hR)
  refine Run.not rfl E rfl rfl rfl rfl ?_; clear E a; intro a E
  refine Run.move rfl E rfl rfl rfl ?_; clear E a; intro a E
  refine Run.move rfl E rfl rfl rfl ?_; clear E a; intro a E
  refine Run.nei rfl E rfl rfl rfl rfl (b := false) (by decide) ?_; clear E a; intro a E
  refine Run.pickF rfl E rfl rfl rfl rfl ?_; clear E a; intro a E
  refine Run.assign rfl E rfl rfl rfl ?_; clear E a; intro a E
  refine Run.nil ?_
  refine then_n ?_
  refine cond_F E rfl ?_
  refine wp_seq ?_
  refine region_drawS (n := 14) [(0, .p), (1, .p), (2, .p), (5, .p), (6, .p), (8, .p), (9, .p), (10, .p), (3, .t), (4, .p), (7, .p), (11, .t), (12, .p), (13, .p)] [0, 1, 3, 7, 15, 0, 32, 127, 0, 256, 768, 1792, 4095, 8191] S mixed rfl rfl (by kernel_rfl) (fun _ _ _ _ _ h => h) ?_; clear S; intro w S B_; clear B_
  refine Run.move rfl E rfl rfl rfl ?_; clear E a; intro a E
  refine Run.nilCheck rfl E rfl rfl rfl ?_; clear E a; intro a E
  refine Run.fieldAddr rfl E rfl rfl rfl fo128_3 (rfl) ?_; clear E a; intro a E
  refine Run.move rfl E rfl rfl rfl ?_; clear E a; intro a E
  refine Run.len rfl E rfl rfl rfl Try.underlying22 ?_; clear E a; intro a E
  refine Run.move rfl E rfl rfl rfl ?_; clear E a; intro a E
  refine Run.nilCheck rfl E rfl rfl rfl ?_; clear E a; intro a E
  refine Run.fieldAddr rfl E rfl rfl rfl fo128_2 (rfl) ?_; clear E a; intro a E
  refine Run.load1 rfl rfl E S rfl rfl rfl one22 (fun _ s => s.objCell 3 3 rfl rfl) ?_; clear E a; intro a E
  refine Run.len rfl E rfl rfl rfl Try.underlying22 ?_; clear E a; intro a E
  refine Run.add rfl E rfl rfl rfl rfl (i64_ok (by omega)) ?_; clear E a; intro a E
  refine Run.load1 rfl rfl E S rfl rfl rfl one3 (fun _ s => s.objCell 3 2 rfl rfl) ?_; clear E a; intro a E
  refine Run.gtr rfl E rfl rfl rfl rfl (decide_eq_false (by omega)) ?_; clear E a; intro a E
  refine Run.assign rfl E rfl rfl rfl ?_; clear E a; intro a E
  refine Run.nil ?_
  refine then_n ?_
  refine cond_F E rfl ?_
  refine wp_skip ?_
  refine blk_n ?_
  refine then_n ?_
  refine wp_seq ?_
  refine region_drawS (n := 15) [(0, .p), (1, .p), (2, .p), (3, .p), (5, .p), (6, .p), (7, .p), (4, .t), (8, .t), (9, .p), (10, .e), (11, .l), (12, .p), (13, .p), (14, .l)] [0, 0, 2, 6, 14, 0, 32, 96, 224, 480, 992, 2046, 4095, 8191, 16383] S mixed rfl rfl (by kernel_rfl) (fun _ _ _ _ _ h => h) ?_; clear S; intro w S B_; clear B_
  refine Run.move rfl E rfl rfl rfl ?_; clear E a; intro a E
  refine Run.move rfl E rfl rfl rfl ?_; clear E a; intro a E
  refine Run.nilCheck rfl E rfl rfl rfl ?_; clear E a; intro a E
  refine Run.fieldAddr rfl E rfl rfl rfl fo128_4 (rfl) ?_; clear E a; intro a E
  refine Run.move rfl E rfl rfl rfl ?_; clear E a; intro a E
  refine Run.nilCheck rfl E rfl rfl rfl ?_; clear E a; intro a E
  refine Run.fieldAddr rfl E rfl rfl rfl fo128_3 (rfl) ?_; clear E a; intro a E
  refine Run.load1 rfl rfl E S rfl rfl rfl one32 (fun _ s => s.objCell 3 4 rfl rfl) ?_; clear E a; intro a E
  refine Run.load1 rfl rfl E S rfl rfl rfl one22 (fun _ s => s.objCell 3 3 rfl rfl) ?_; clear E a; intro a E
  refine Run.len rfl E rfl rfl rfl Try.underlying22 ?_; clear E a; intro a E
  refine Run.buildSlice (cs := [.int .i64 (bs.length : Int)]) [(0, .int .i64 (bs.length : Int))] rfl rfl E S rfl rfl rfl Try.underlying32 (by kernel_rfl) ?_; clear E a S; intro b5 w a E S B_; clear B_
  refine Run.append (news := [.int .i64 (bs.length : Int)]) (nm := sts.length + 1) 6 rfl E S rfl rfl rfl rfl rfl Try.underlying32 I3 rfl rfl rfl (objNews S 0 rfl) (by simp [Value.oneCell']) (by omega) (by omega) (by omega) ?_; clear E a S; intro A6 c7 w a E S
  replace S : St _ _ _ [.obj _ _ [_], _, .obj _ _ [_, _, _, _, _, _, _, _], .obj _ _ [_, _, _, _, _, _, _, _], .obj _ _ [_, _, _, _, _, _, _, _, _, _, _, _, _], _, _, _] := S
  refine Run.nilCheck rfl E rfl rfl rfl ?_; clear E a; intro a E
  refine Run.fieldAddr rfl E rfl rfl rfl fo128_4 (rfl) ?_; clear E a; intro a E
  refine Run.store (news := [.slice A6 (sts.length + 1) c7]) (cs' := [_, _, _, _, _, _, _, _, _, _, _, _, _]) (hp' := [_, _, _, _, _, _, _, _]) 4 rfl E S rfl rfl rfl rfl rfl sz32 rfl rfl rfl rfl ?_; clear S; intro w S
  refine Run.nil ?_
  refine then_n ?_
  refine wp_seq ?_
  refine region_plain (n := 10) [(0, .p), (1, .p), (2, .p), (3, .p), (4, .l), (5, .p), (6, .l), (7, .p), (8, .p), (9, .l)] rfl rfl ?_
  refine Run.move rfl E rfl rfl rfl ?_; clear E a; intro a E
  refine Run.move rfl E rfl rfl rfl ?_; clear E a; intro a E
  refine Run.nilCheck rfl E rfl rfl rfl ?_; clear E a; intro a E
  refine Run.fieldAddr rfl E rfl rfl rfl fo128_3 (rfl) ?_; clear E a; intro a E
  refine Run.load1 rfl rfl E S rfl rfl rfl one22 (fun _ s => s.objCell 4 3 rfl rfl) ?_; clear E a; intro a E
  refine Run.move rfl E rfl rfl rfl ?_; clear E a; intro a E
  refine Run.appendRd (news := u8s (rec18 la s)) (nm := (bs ++ rec18 la s).length) 5 rfl E S rfl rfl rfl rfl rfl Try.underlying22 I5 rfl rfl (S.rd 1 rfl) (u8s_one _) (by simp only [List.length_append]) (by omega) (by omega) ?_; clear E a S; intro A8 c9 w a E S
  rw [u8s_append] at S
  replace S : St _ _ _ [.obj _ _ [_], _, .obj _ _ [_, _, _, _, _, _, _, _], .obj _ _ [_, _, _, _, _, _, _, _], .obj _ _ [_, _, _, _, _, _, _, _, _, _, _, _, _], _, _, _] := S
  refine Run.nilCheck rfl E rfl rfl rfl ?_; clear E a; intro a E
  refine Run.fieldAddr rfl E rfl rfl rfl fo128_3 (rfl) ?_; clear E a; intro a E
  refine Run.store (news := [.slice A8 ((bs ++ rec18 la s).length) c9]) (cs' := [_, _, _, _, _, _, _, _, _, _, _, _, _]) (hp' := [_, _, _, _, _, _, _, _]) 4 rfl E S rfl rfl rfl rfl rfl sz22 rfl rfl rfl rfl ?_; clear S; intro w S
  refine Run.nil ?_
  refine then_n ?_
  refine wp_seq ?_
  refine region_plain (n := 6) [(0, .p), (1, .l), (2, .e), (3, .p), (4, .p), (5, .l)] rfl rfl ?_
  refine Run.move rfl E rfl rfl rfl ?_; clear E a; intro a E
  refine Run.loadN (cs := [.int .i64 s.kind, .int .i64 s.node, .int .i64 s.phase, .int .i64 s.pos, .int .i64 s.start, .int .i64 s.depth, .int .i64 s.org, .slice D s.caps.length f]) rfl rfl E S rfl rfl rfl ag34 rfl (fun _ s => objAll s 3 rfl) ?_; clear E a; intro a E
  refine Run.call (args := [.agg #[.int .i64 s.kind, .int .i64 s.node, .int .i64 s.phase, .int .i64 s.pos, .int .i64 s.start, .int .i64 s.depth, .int .i64 s.org, .slice D s.caps.length f]]) rfl rfl E rfl rfl Try.func44 nm44 rfl rfl (own_walk (s := s) (H1.chg S.chg hDw) (by omega)) ?_; rintro e_ w ⟨P10, q11, rfl, S_⟩; refine ⟨_, rfl, (fun _ => S_.belT), ?_⟩; clear E a; intro a E
  replace S : St _ _ _ [_, .obj _ _ [_], _, .obj _ _ [_, _, _, _, _, _, _, _], .obj _ _ [_, _, _, _, _, _, _, _], .obj _ _ [_, _, _, _, _, _, _, _, _, _, _, _, _], _, _, _] := St.call (A := []) (R := [_, _, _, _, _, _, _, _]) S S_; clear S_
  refine Run.nilCheck rfl E rfl rfl rfl ?_; clear E a; intro a E
  refine Run.fieldAddr rfl E rfl rfl rfl fo128_5 (rfl) ?_; clear E a; intro a E
  refine Run.store (news := [.int .i64 s.kind, .int .i64 s.node, .int .i64 s.phase, .int .i64 s.pos, .int .i64 s.start, .int .i64 s.depth, .int .i64 s.org, .slice P10 s.caps.length q11]) (cs' := [_, _, _, _, _, _, _, _, _, _, _, _, _]) (hp' := [_, _, _, _, _, _, _, _, _]) 5 rfl E S rfl rfl rfl rfl rfl sz34 rfl rfl rfl rfl ?_; clear S; intro w S
  refine Run.nil ?_
  refine then_n ?_
  refine wp_seq ?_
  refine region_plain (n := 1) [(0, .p)] rfl rfl ?_
  refine Run.assign rfl E rfl rfl rfl ?_; clear E a; intro a E
  refine Run.nil ?_
  refine then_n ?_
  refine wp_ret ?_
  have S : St _ _ _ [_, _, _, _, _, _, _, _, _] := S.sel [1, 2, 3, 4, 8, 5, 6, 7, 0] _ rfl rfl
  have S := S.drop1.drop1.drop1.drop1.drop1
  subst hb' hs'
  have e1 : (sts ++ [(bs.length : Int)]).length = sts.length + 1 := by simp
  refine ret1 E Try.results75 rfl ⟨rfl, A8, c9, A6, c7, P10, q11, ?_⟩
  rw [e1, ← ints_snoc]; exact S

end
end Go.Proofs.Ytlcglefbhlhcpaa.K
