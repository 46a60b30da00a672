/- The example of chapter 19; a tape of states. -/
import Derived.Test.YtlcglefbhlhcpaaKg
import Derived.Test.YtlcglefbhlhcpaaTaB
namespace Go.Proofs.Ytlcglefbhlhcpaa.K
open Go.RowKit
set_option linter.unusedVariables false
set_option maxRecDepth 100000
set_option maxHeartbeats 400000

section
variable {w0 : World} {L : Option Addr} {cL : Nat} {l : List StaM} {G ev : Nat} {lim gr ev0 : Int} {ts0 : List Sta}

theorem right19_ok (hG : G ≤ 99) (he0 : 1 ≤ ev) (he1 : ev ≤ 1024) (hl0 : 0 ≤ lim) (hl1 : lim ≤ 16777216) : Calls Try.prog 69 [.agg #[.int .i64 (G : Int), .int .i64 (ev : Int), .int .i64 lim]].toArray w0 (fun r w' => r = .returned (.bool true) ∧ Bel w0 w') := by
  have S := St.nil [] w0
  refine fn_start Try.func69 rfl 31 rfl rfl [(0, _)] ⟨rfl, trivial⟩ ?_; intro a E
  refine wp_seq ?_
  refine region_plain (n := 2) [(0, .e), (1, .p)] rfl rfl ?_
  refine Run.box (cs := [.int .i64 (G : Int), .int .i64 (ev : Int), .int .i64 lim]) rfl rfl E S rfl rfl rfl rfl ?_; clear E a S; intro b1 w a E S B_; clear B_
  refine Run.assign rfl E rfl rfl rfl ?_; clear E a; intro a E
  refine Run.nil ?_
  refine then_n ?_
  refine wp_seq ?_
  refine region_plain (n := 29) [(0, .p), (1, .l), (2, .p), (3, .p), (4, .p), (5, .l), (6, .p), (7, .p), (8, .p), (9, .p), (10, .l), (11, .p), (12, .p), (13, .p), (14, .p), (15, .l), (16, .p), (17, .p), (18, .p), (19, .p), (20, .l), (21, .p), (22, .p), (23, .p), (24, .p), (25, .l), (26, .p), (27, .p), (28, .p)] rfl rfl ?_
  refine Run.fieldAddr rfl E rfl rfl rfl fo102_0 (rfl) ?_; clear E a; intro a E
  refine Run.load1 rfl rfl E S rfl rfl rfl one3 (fun _ s => s.objCell 0 0 rfl rfl) ?_; clear E a; intro a E
  refine Run.geq rfl E rfl rfl rfl rfl (decide_eq_true (by omega)) ?_; clear E a; intro a E
  refine Run.move rfl E rfl rfl rfl ?_; clear E a; intro a E
  refine Run.fieldAddr rfl E rfl rfl rfl fo102_0 (rfl) ?_; clear E a; intro a E
  refine Run.load1 rfl rfl E S rfl rfl rfl one3 (fun _ s => s.objCell 0 0 rfl rfl) ?_; clear E a; intro a E
  refine Run.leq rfl E rfl rfl rfl rfl (decide_eq_true (by omega)) ?_; clear E a; intro a E
  refine Run.pickT rfl E rfl rfl rfl rfl ?_; clear E a; intro a E
  refine Run.move rfl E rfl rfl rfl ?_; clear E a; intro a E
  refine Run.fieldAddr rfl E rfl rfl rfl fo102_1 (rfl) ?_; clear E a; intro a E
  refine Run.load1 rfl rfl E S rfl rfl rfl one3 (fun _ s => s.objCell 0 1 rfl rfl) ?_; clear E a; intro a E
  refine Run.geq rfl E rfl rfl rfl rfl (decide_eq_true (by omega)) ?_; clear E a; intro a E
  refine Run.pickT rfl E rfl rfl rfl rfl ?_; clear E a; intro a E
  refine Run.move rfl E rfl rfl rfl ?_; clear E a; intro a E
  refine Run.fieldAddr rfl E rfl rfl rfl fo102_1 (rfl) ?_; clear E a; intro a E
  refine Run.load1 rfl rfl E S rfl rfl rfl one3 (fun _ s => s.objCell 0 1 rfl rfl) ?_; clear E a; intro a E
  refine Run.leq rfl E rfl rfl rfl rfl (decide_eq_true (by omega)) ?_; clear E a; intro a E
  refine Run.pickT rfl E rfl rfl rfl rfl ?_; clear E a; intro a E
  refine Run.move rfl E rfl rfl rfl ?_; clear E a; intro a E
  refine Run.fieldAddr rfl E rfl rfl rfl fo102_2 (rfl) ?_; clear E a; intro a E
  refine Run.load1 rfl rfl E S rfl rfl rfl one3 (fun _ s => s.objCell 0 2 rfl rfl) ?_; clear E a; intro a E
  refine Run.geq rfl E rfl rfl rfl rfl (decide_eq_true (by omega)) ?_; clear E a; intro a E
  refine Run.pickT rfl E rfl rfl rfl rfl ?_; clear E a; intro a E
  refine Run.move rfl E rfl rfl rfl ?_; clear E a; intro a E
  refine Run.fieldAddr rfl E rfl rfl rfl fo102_2 (rfl) ?_; clear E a; intro a E
  refine Run.load1 rfl rfl E S rfl rfl rfl one3 (fun _ s => s.objCell 0 2 rfl rfl) ?_; clear E a; intro a E
  refine Run.leq rfl E rfl rfl rfl rfl (decide_eq_true (by omega)) ?_; clear E a; intro a E
  refine Run.pickT rfl E rfl rfl rfl rfl ?_; clear E a; intro a E
  refine Run.assign rfl E rfl rfl rfl ?_; clear E a; intro a E
  refine Run.nil ?_
  refine then_n ?_
  refine wp_ret ?_
  exact ret1 E Try.results69 rfl ⟨rfl, S.belT⟩

theorem right19_bad (hn : ¬ ((0 ≤ gr ∧ gr ≤ 99) ∧ (1 ≤ ev0 ∧ ev0 ≤ 1024) ∧ (0 ≤ lim ∧ lim ≤ 16777216))) : Calls Try.prog 69 [.agg #[.int .i64 gr, .int .i64 ev0, .int .i64 lim]].toArray w0 (fun r w' => r = .returned (.bool false) ∧ Bel w0 w') := by
  have S := St.nil [] w0
  refine fn_start Try.func69 rfl 31 rfl rfl [(0, _)] ⟨rfl, trivial⟩ ?_; intro a E
  refine wp_seq ?_
  refine region_plain (n := 2) [(0, .e), (1, .p)] rfl rfl ?_
  refine Run.box (cs := [.int .i64 gr, .int .i64 ev0, .int .i64 lim]) rfl rfl E S rfl rfl rfl rfl ?_; clear E a S; intro b1 w a E S B_; clear B_
  refine Run.assign rfl E rfl rfl rfl ?_; clear E a; intro a E
  refine Run.nil ?_
  refine then_n ?_
  refine wp_seq ?_
  refine region_plain (n := 29) [(0, .p), (1, .l), (2, .p), (3, .p), (4, .p), (5, .l), (6, .p), (7, .p), (8, .p), (9, .p), (10, .l), (11, .p), (12, .p), (13, .p), (14, .p), (15, .l), (16, .p), (17, .p), (18, .p), (19, .p), (20, .l), (21, .p), (22, .p), (23, .p), (24, .p), (25, .l), (26, .p), (27, .p), (28, .p)] rfl rfl ?_
  refine Run.fieldAddr rfl E rfl rfl rfl fo102_0 (rfl) ?_; clear E a; intro a E
  refine Run.load1 rfl rfl E S rfl rfl rfl one3 (fun _ s => s.objCell 0 0 rfl rfl) ?_; clear E a; intro a E
  by_cases h1 : 0 ≤ gr
  · skip
    refine Run.geq rfl E rfl rfl rfl rfl (decide_eq_true (by omega)) ?_; clear E a; intro a E
    refine Run.move rfl E rfl rfl rfl ?_; clear E a; intro a E
    refine Run.fieldAddr rfl E rfl rfl rfl fo102_0 (rfl) ?_; clear E a; intro a E
    refine Run.load1 rfl rfl E S rfl rfl rfl one3 (fun _ s => s.objCell 0 0 rfl rfl) ?_; clear E a; intro a E
    by_cases h2 : gr ≤ 99
    · skip
      refine Run.leq rfl E rfl rfl rfl rfl (decide_eq_true (by omega)) ?_; clear E a; intro a E
      refine Run.pickT rfl E rfl rfl rfl rfl ?_; clear E a; intro a E
      refine Run.move rfl E rfl rfl rfl ?_; clear E a; intro a E
      refine Run.fieldAddr rfl E rfl rfl rfl fo102_1 (rfl) ?_; clear E a; intro a E
      refine Run.load1 rfl rfl E S rfl rfl rfl one3 (fun _ s => s.objCell 0 1 rfl rfl) ?_; clear E a; intro a E
      by_cases h3 : 1 ≤ ev0
      · skip
        refine Run.geq rfl E rfl rfl rfl rfl (decide_eq_true (by omega)) ?_; clear E a; intro a E
        refine Run.pickT rfl E rfl rfl rfl rfl ?_; clear E a; intro a E
        refine Run.move rfl E rfl rfl rfl ?_; clear E a; intro a E
        refine Run.fieldAddr rfl E rfl rfl rfl fo102_1 (rfl) ?_; clear E a; intro a E
        refine Run.load1 rfl rfl E S rfl rfl rfl one3 (fun _ s => s.objCell 0 1 rfl rfl) ?_; clear E a; intro a E
        by_cases h4 : ev0 ≤ 1024
        · skip
          refine Run.leq rfl E rfl rfl rfl rfl (decide_eq_true (by omega)) ?_; clear E a; intro a E
          refine Run.pickT rfl E rfl rfl rfl rfl ?_; clear E a; intro a E
          refine Run.move rfl E rfl rfl rfl ?_; clear E a; intro a E
          refine Run.fieldAddr rfl E rfl rfl rfl fo102_2 (rfl) ?_; clear E a; intro a E
          refine Run.load1 rfl rfl E S rfl rfl rfl one3 (fun _ s => s.objCell 0 2 rfl rfl) ?_; clear E a; intro a E
          by_cases h5 : 0 ≤ lim
          · skip
            refine Run.geq rfl E rfl rfl rfl rfl (decide_eq_true (by omega)) ?_; clear E a; intro a E
            refine Run.pickT rfl E rfl rfl rfl rfl ?_; clear E a; intro a E
            refine Run.move rfl E rfl rfl rfl ?_; clear E a; intro a E
            refine Run.fieldAddr rfl E rfl rfl rfl fo102_2 (rfl) ?_; clear E a; intro a E
            refine Run.load1 rfl rfl E S rfl rfl rfl one3 (fun _ s => s.objCell 0 2 rfl rfl) ?_; clear E a; intro a E
            refine Run.leq rfl E rfl rfl rfl rfl (decide_eq_false (by omega)) ?_; clear E a; intro a E
            refine Run.pickT rfl E rfl rfl rfl rfl ?_; clear E a; intro a E
            refine Run.assign rfl E rfl rfl rfl ?_; clear E a; intro a E
            refine Run.nil ?_
            refine then_n ?_
            refine wp_ret ?_
            exact ret1 E Try.results69 rfl ⟨rfl, S.belT⟩
          · skip
            refine Run.geq rfl E rfl rfl rfl rfl (decide_eq_false (by omega)) ?_; clear E a; intro a E
            refine Run.pickT rfl E rfl rfl rfl rfl ?_; clear E a; intro a E
            refine Run.move rfl E rfl rfl rfl ?_; clear E a; intro a E
            refine Run.off rfl E rfl rfl ?_; clear E a; intro a E
            refine Run.off rfl E rfl rfl ?_; clear E a; intro a E
            refine Run.off rfl E rfl rfl ?_; clear E a; intro a E
            refine Run.pickF rfl E rfl rfl rfl rfl ?_; clear E a; intro a E
            refine Run.assign rfl E rfl rfl rfl ?_; clear E a; intro a E
            refine Run.nil ?_
            refine then_n ?_
            refine wp_ret ?_
            exact ret1 E Try.results69 rfl ⟨rfl, S.belT⟩
        · skip
          refine Run.leq rfl E rfl rfl rfl rfl (decide_eq_false (by omega)) ?_; clear E a; intro a E
          refine Run.pickT rfl E rfl rfl rfl rfl ?_; clear E a; intro a E
          refine Run.move rfl E rfl rfl rfl ?_; clear E a; intro a E
          refine Run.off rfl E rfl rfl ?_; clear E a; intro a E
          refine Run.off rfl E rfl rfl ?_; clear E a; intro a E
          refine Run.off rfl E rfl rfl ?_; clear E a; intro a E
          refine Run.pickF rfl E rfl rfl rfl rfl ?_; clear E a; intro a E
          refine Run.move rfl E rfl rfl rfl ?_; clear E a; intro a E
          refine Run.off rfl E rfl rfl ?_; clear E a; intro a E
          refine Run.off rfl E rfl rfl ?_; clear E a; intro a E
          refine Run.off rfl E rfl rfl ?_; clear E a; intro a E
          refine Run.pickF rfl E rfl rfl rfl rfl ?_; clear E a; intro a E
          refine Run.assign rfl E rfl rfl rfl ?_; clear E a; intro a E
          refine Run.nil ?_
          refine then_n ?_
          refine wp_ret ?_
          exact ret1 E Try.results69 rfl ⟨rfl, S.belT⟩
      · skip
        refine Run.geq rfl E rfl rfl rfl rfl (decide_eq_false (by omega)) ?_; clear E a; intro a E
        refine Run.pickT rfl E rfl rfl rfl rfl ?_; clear E a; intro a E
        refine Run.move rfl E rfl rfl rfl ?_; clear E a; intro a E
        refine Run.off rfl E rfl rfl ?_; clear E a; intro a E
        refine Run.off rfl E rfl rfl ?_; clear E a; intro a E
        refine Run.off rfl E rfl rfl ?_; clear E a; intro a E
        refine Run.pickF rfl E rfl rfl rfl rfl ?_; clear E a; intro a E
        refine Run.move rfl E rfl rfl rfl ?_; clear E a; intro a E
        refine Run.off rfl E rfl rfl ?_; clear E a; intro a E
        refine Run.off rfl E rfl rfl ?_; clear E a; intro a E
        refine Run.off rfl E rfl rfl ?_; clear E a; intro a E
        refine Run.pickF rfl E rfl rfl rfl rfl ?_; clear E a; intro a E
        refine Run.move rfl E rfl rfl rfl ?_; clear E a; intro a E
        refine Run.off rfl E rfl rfl ?_; clear E a; intro a E
        refine Run.off rfl E rfl rfl ?_; clear E a; intro a E
        refine Run.off rfl E rfl rfl ?_; clear E a; intro a E
        refine Run.pickF rfl E rfl rfl rfl rfl ?_; clear E a; intro a E
        refine Run.assign rfl E rfl rfl rfl ?_; clear E a; intro a E
        refine Run.nil ?_
        refine then_n ?_
        refine wp_ret ?_
        exact ret1 E Try.results69 rfl ⟨rfl, S.belT⟩
    · skip
      refine Run.leq rfl E rfl rfl rfl rfl (decide_eq_false (by omega)) ?_; clear E a; intro a E
      refine Run.pickT rfl E rfl rfl rfl rfl ?_; clear E a; intro a E
      refine Run.move rfl E rfl rfl rfl ?_; clear E a; intro a E
      refine Run.off rfl E rfl rfl ?_; clear E a; intro a E
      refine Run.off rfl E rfl rfl ?_; clear E a; intro a E
      refine Run.off rfl E rfl rfl ?_; clear E a; intro a E
      refine Run.pickF rfl E rfl rfl rfl rfl ?_; clear E a; intro a E
      refine Run.move rfl E rfl rfl rfl ?_; clear E a; intro a E
      refine Run.off rfl E rfl rfl ?_; clear E a; intro a E
      refine Run.off rfl E rfl rfl ?_; clear E a; intro a E
      refine Run.off rfl E rfl rfl ?_; clear E a; intro a E
      refine Run.pickF rfl E rfl rfl rfl rfl ?_; clear E a; intro a E
      refine Run.move rfl E rfl rfl rfl ?_; clear E a; intro a E
      refine Run.off rfl E rfl rfl ?_; clear E a; intro a E
      refine Run.off rfl E rfl rfl ?_; clear E a; intro a E
      refine Run.off rfl E rfl rfl ?_; clear E a; intro a E
      refine Run.pickF rfl E rfl rfl rfl rfl ?_; clear E a; intro a E
      refine Run.move rfl E rfl rfl rfl ?_; clear E a; intro a E
      refine Run.off rfl E rfl rfl ?_; clear E a; intro a E
      refine Run.off rfl E rfl rfl ?_; clear E a; intro a E
      refine Run.off rfl E rfl rfl ?_; clear E a; intro a E
      refine Run.pickF rfl E rfl rfl rfl rfl ?_; clear E a; intro a E
      refine Run.assign rfl E rfl rfl rfl ?_; clear E a; intro a E
      refine Run.nil ?_
      refine then_n ?_
      refine wp_ret ?_
      exact ret1 E Try.results69 rfl ⟨rfl, S.belT⟩
  · skip
    refine Run.geq rfl E rfl rfl rfl rfl (decide_eq_false (by omega)) ?_; clear E a; intro a E
    refine Run.move rfl E rfl rfl rfl ?_; clear E a; intro a E
    refine Run.off rfl E rfl rfl ?_; clear E a; intro a E
    refine Run.off rfl E rfl rfl ?_; clear E a; intro a E
    refine Run.off rfl E rfl rfl ?_; clear E a; intro a E
    refine Run.pickF rfl E rfl rfl rfl rfl ?_; clear E a; intro a E
    refine Run.move rfl E rfl rfl rfl ?_; clear E a; intro a E
    refine Run.off rfl E rfl rfl ?_; clear E a; intro a E
    refine Run.off rfl E rfl rfl ?_; clear E a; intro a E
    refine Run.off rfl E rfl rfl ?_; clear E a; intro a E
    refine Run.pickF rfl E rfl rfl rfl rfl ?_; clear E a; intro a E
    refine Run.move rfl E rfl rfl rfl ?_; clear E a; intro a E
    refine Run.off rfl E rfl rfl ?_; clear E a; intro a E
    refine Run.off rfl E rfl rfl ?_; clear E a; intro a E
    refine Run.off rfl E rfl rfl ?_; clear E a; intro a E
    refine Run.pickF rfl E rfl rfl rfl rfl ?_; clear E a; intro a E
    refine Run.move rfl E rfl rfl rfl ?_; clear E a; intro a E
    refine Run.off rfl E rfl rfl ?_; clear E a; intro a E
    refine Run.off rfl E rfl rfl ?_; clear E a; intro a E
    refine Run.off rfl E rfl rfl ?_; clear E a; intro a E
    refine Run.pickF rfl E rfl rfl rfl rfl ?_; clear E a; intro a E
    refine Run.move rfl E rfl rfl rfl ?_; clear E a; intro a E
    refine Run.off rfl E rfl rfl ?_; clear E a; intro a E
    refine Run.off rfl E rfl rfl ?_; clear E a; intro a E
    refine Run.off rfl E rfl rfl ?_; clear E a; intro a E
    refine Run.pickF rfl E rfl rfl rfl rfl ?_; clear E a; intro a E
    refine Run.assign rfl E rfl rfl rfl ?_; clear E a; intro a E
    refine Run.nil ?_
    refine then_n ?_
    refine wp_ret ?_
    exact ret1 E Try.results69 rfl ⟨rfl, S.belT⟩

set_option maxHeartbeats 2000000 in
theorem anchor19  : Calls Try.prog 68 [].toArray w0 (fun r w' => r = .returned (.bool true) ∧ Bel w0 w') := by
  have S := St.nil [] w0
  refine fn_start Try.func68 rfl 58 rfl rfl [] trivial ?_; intro a E
  refine wp_seq ?_
  refine region_plain (n := 1) [(0, .p)] rfl rfl ?_
  refine Run.assign rfl E rfl rfl rfl ?_; clear E a; intro a E
  refine Run.nil ?_
  refine then_n ?_
  refine wp_seq ?_
  refine region_plain (n := 6) [(0, .e), (1, .p), (2, .p), (3, .p), (4, .p), (5, .p)] rfl rfl ?_
  refine Run.call (args := [.int .i64 0, .int .i64 2, .int .i64 100]) rfl rfl E rfl rfl Try.func73 nm73 rfl rfl (tape_new (G := 0) (ev := 2) (lim := 100) (by decide) (by decide) (by decide) (by decide) (by decide)) ?_; rintro e_ w ⟨g, rfl, S_⟩; refine ⟨_, rfl, (fun _ => S_.belT), ?_⟩; clear E a; intro a E
  replace S : St _ _ _ [.obj _ _ [_, _, _, _, _, _, _, _, _, _, _, _, _], _, _, _] := St.call (A := []) (R := []) S S_; clear S_
  refine Run.move rfl E rfl rfl rfl ?_; clear E a; intro a E
  refine Run.extract rfl E rfl rfl rfl rfl ?_; clear E a; intro a E
  refine Run.extract rfl E rfl rfl rfl rfl ?_; clear E a; intro a E
  refine Run.assign rfl E rfl rfl rfl ?_; clear E a; intro a E
  refine Run.assign rfl E rfl rfl rfl ?_; clear E a; intro a E
  refine Run.nil ?_
  refine then_n ?_
  refine wp_seq ?_
  refine wp_seq ?_
  refine region_plain (n := 6) [(0, .p), (1, .p), (2, .p), (3, .p), (4, .p), (5, .p)] rfl rfl ?_
  refine Run.move rfl E rfl rfl rfl ?_; clear E a; intro a E
  refine Run.nei rfl E rfl rfl rfl rfl (b := false) (by decide) ?_; clear E a; intro a E
  refine Run.move rfl E rfl rfl rfl ?_; clear E a; intro a E
  refine Run.move rfl E rfl rfl rfl ?_; clear E a; intro a E
  refine Run.bin (v := .bool false) rfl E rfl rfl rfl rfl (fun _ => by kernel_rfl) ?_; clear E a; intro a E
  refine Run.pickF rfl E rfl rfl rfl rfl ?_; clear E a; intro a E
  refine Run.nil ?_
  refine then_n ?_
  refine cond_F E rfl ?_
  refine wp_skip ?_
  refine then_n ?_
  refine wp_seq ?_
  refine region_plain (n := 3) [(0, .e), (1, .e), (2, .l)] rfl rfl ?_
  refine Run.call (args := [.int .i64 0]) rfl rfl E rfl rfl Try.func78 nm78 rfl rfl (blank_walk (g := 0) (k := 0) (by decide)) ?_; rintro e_ w ⟨P1, q2, rfl, S_⟩; refine ⟨_, rfl, (fun _ => S_.belT), ?_⟩; clear E a; intro a E
  replace S : St _ _ _ [_, .obj _ _ [_, _, _, _, _, _, _, _, _, _, _, _, _], _, _, _] := St.call (A := []) (R := [_, _, _, _]) S S_; clear S_
  refine Run.alloc rfl rfl E S rfl rfl z34 rfl ?_; clear E a S; intro b3 w a E S B_; clear B_
  refine Run.store (news := [.int .i64 0, .int .i64 0, .int .i64 0, .int .i64 0, .int .i64 0, .int .i64 0, .int .i64 (-1), .slice P1 2 q2]) (cs' := [_, _, _, _, _, _, _, _]) (hp' := [_, _, _, _, _, _]) 0 rfl E S rfl rfl rfl rfl rfl sz34 rfl rfl rfl rfl ?_; clear S; intro w S
  refine Run.nil ?_
  refine then_n ?_
  refine wp_seq ?_
  refine region_plain (n := 2) [(0, .p), (1, .l)] rfl rfl ?_
  refine Run.fieldAddr rfl E rfl rfl rfl fo34_0 (rfl) ?_; clear E a; intro a E
  refine Run.store (news := [.int .i64 1]) (cs' := [_, _, _, _, _, _, _, _]) (hp' := [_, _, _, _, _, _]) 0 rfl E S rfl rfl rfl rfl rfl sz3 rfl rfl rfl rfl ?_; clear S; intro w S
  refine Run.nil ?_
  refine then_n ?_
  refine wp_seq ?_
  refine region_plain (n := 4) [(0, .p), (1, .l), (2, .l), (3, .p)] rfl rfl ?_
  refine Run.move rfl E rfl rfl rfl ?_; clear E a; intro a E
  refine Run.loadN (cs := [.int .i64 1, .int .i64 0, .int .i64 0, .int .i64 0, .int .i64 0, .int .i64 0, .int .i64 (-1), .slice P1 2 q2]) rfl rfl E S rfl rfl rfl ag34 rfl (fun _ s => objAll s 0 rfl) ?_; clear E a; intro a E
  replace S : St _ _ _ [.obj _ _ [_, _, _, _, _, _, _, _, _, _, _, _, _], _, _, _, .obj _ _ [_, _, _, _, _, _, _, _], _] := S.sel [2, 3, 4, 5, 0, 1] _ rfl rfl
  refine Run.call (args := [.pointer (some ⟨g, 0, none⟩), .agg #[.int .i64 1, .int .i64 0, .int .i64 0, .int .i64 0, .int .i64 0, .int .i64 0, .int .i64 (-1), .slice P1 2 q2]]) rfl rfl E rfl rfl Try.func75 nm75 rfl rfl (by have h := tadd_walk (f := q2) (G := 0) (ev := 2) (lim := 100) (ts := ([] : List Sta)) (s := stA) (St.ownL (A := [.obj g 128 [.int .i64 ((0 : Nat) : Int), .int .i64 ((2 : Nat) : Int), .int .i64 100, .slice none ((tbytes 0 2 ([] : List Sta)).length) 0, .slice none ((tstarts 0 2 ([] : List Sta)).length) 0, .int .i64 ((lastS ([] : List Sta)).kind), .int .i64 ((lastS ([] : List Sta)).node), .int .i64 ((lastS ([] : List Sta)).phase), .int .i64 ((lastS ([] : List Sta)).pos), .int .i64 ((lastS ([] : List Sta)).start), .int .i64 ((lastS ([] : List Sta)).depth), .int .i64 ((lastS ([] : List Sta)).org), .slice none ((lastS ([] : List Sta)).caps.length) 0], .row (.slice none ((tbytes 0 2 ([] : List Sta)).length) 0) 5 1 ((tbytes 0 2 ([] : List Sta)).length) (u8s (tbytes 0 2 ([] : List Sta))), .row (.slice none ((tstarts 0 2 ([] : List Sta)).length) 0) 3 1 ((tstarts 0 2 ([] : List Sta)).length) (ints (tstarts 0 2 ([] : List Sta))), .row (.slice none ((lastS ([] : List Sta)).caps.length) 0) 3 1 ((lastS ([] : List Sta)).caps.length) (ints (lastS ([] : List Sta)).caps)]) (R := [_, _]) S) (⟨by decide, by decide, by decide, fun _ h => by cases h⟩) (by decide) (by decide) (S.rd 5 rfl) (St.apartRow (A := [.obj g 128 [.int .i64 ((0 : Nat) : Int), .int .i64 ((2 : Nat) : Int), .int .i64 100, .slice none ((tbytes 0 2 ([] : List Sta)).length) 0, .slice none ((tstarts 0 2 ([] : List Sta)).length) 0, .int .i64 ((lastS ([] : List Sta)).kind), .int .i64 ((lastS ([] : List Sta)).node), .int .i64 ((lastS ([] : List Sta)).phase), .int .i64 ((lastS ([] : List Sta)).pos), .int .i64 ((lastS ([] : List Sta)).start), .int .i64 ((lastS ([] : List Sta)).depth), .int .i64 ((lastS ([] : List Sta)).org), .slice none ((lastS ([] : List Sta)).caps.length) 0], .row (.slice none ((tbytes 0 2 ([] : List Sta)).length) 0) 5 1 ((tbytes 0 2 ([] : List Sta)).length) (u8s (tbytes 0 2 ([] : List Sta))), .row (.slice none ((tstarts 0 2 ([] : List Sta)).length) 0) 3 1 ((tstarts 0 2 ([] : List Sta)).length) (ints (tstarts 0 2 ([] : List Sta))), .row (.slice none ((lastS ([] : List Sta)).caps.length) 0) 3 1 ((lastS ([] : List Sta)).caps.length) (ints (lastS ([] : List Sta)).caps)]) (R := [_, _]) S 1 rfl) (by decide); rw [addT_A.1, addT_A.2] at h; exact h) ?_; rintro e_ w ⟨rfl, Ax4, cx5, Bx6, dx7, Cx8, ex9, S_⟩; refine ⟨_, rfl, (fun h => by cases h), ?_⟩; clear E a; intro a E
  replace S : St _ _ _ [.obj _ _ [_, _, _, _, _, _, _, _, _, _, _, _, _], _, _, _, .obj _ _ [_, _, _, _, _, _, _, _], _] := St.call (A := [.obj g 128 [.int .i64 ((0 : Nat) : Int), .int .i64 ((2 : Nat) : Int), .int .i64 100, .slice none ((tbytes 0 2 ([] : List Sta)).length) 0, .slice none ((tstarts 0 2 ([] : List Sta)).length) 0, .int .i64 ((lastS ([] : List Sta)).kind), .int .i64 ((lastS ([] : List Sta)).node), .int .i64 ((lastS ([] : List Sta)).phase), .int .i64 ((lastS ([] : List Sta)).pos), .int .i64 ((lastS ([] : List Sta)).start), .int .i64 ((lastS ([] : List Sta)).depth), .int .i64 ((lastS ([] : List Sta)).org), .slice none ((lastS ([] : List Sta)).caps.length) 0], .row (.slice none ((tbytes 0 2 ([] : List Sta)).length) 0) 5 1 ((tbytes 0 2 ([] : List Sta)).length) (u8s (tbytes 0 2 ([] : List Sta))), .row (.slice none ((tstarts 0 2 ([] : List Sta)).length) 0) 3 1 ((tstarts 0 2 ([] : List Sta)).length) (ints (tstarts 0 2 ([] : List Sta))), .row (.slice none ((lastS ([] : List Sta)).caps.length) 0) 3 1 ((lastS ([] : List Sta)).caps.length) (ints (lastS ([] : List Sta)).caps)]) (R := [_, _]) S S_; clear S_
  refine Run.assign rfl E rfl rfl rfl ?_; clear E a; intro a E
  refine Run.nil ?_
  refine then_n ?_
  refine wp_seq ?_
  refine region_plain (n := 2) [(0, .p), (1, .l)] rfl rfl ?_
  refine Run.fieldAddr rfl E rfl rfl rfl fo34_0 (rfl) ?_; clear E a; intro a E
  refine Run.store (news := [.int .i64 14]) (cs' := [_, _, _, _, _, _, _, _]) (hp' := [_, _, _, _, _, _]) 4 rfl E S rfl rfl rfl rfl rfl sz3 rfl rfl rfl rfl ?_; clear S; intro w S
  refine Run.nil ?_
  refine then_n ?_
  refine wp_seq ?_
  refine region_plain (n := 4) [(0, .p), (1, .l), (2, .l), (3, .p)] rfl rfl ?_
  refine Run.move rfl E rfl rfl rfl ?_; clear E a; intro a E
  refine Run.loadN (cs := [.int .i64 14, .int .i64 0, .int .i64 0, .int .i64 0, .int .i64 0, .int .i64 0, .int .i64 (-1), .slice P1 2 q2]) rfl rfl E S rfl rfl rfl ag34 rfl (fun _ s => objAll s 4 rfl) ?_; clear E a; intro a E
  refine Run.call (args := [.pointer (some ⟨g, 0, none⟩), .agg #[.int .i64 14, .int .i64 0, .int .i64 0, .int .i64 0, .int .i64 0, .int .i64 0, .int .i64 (-1), .slice P1 2 q2]]) rfl rfl E rfl rfl Try.func75 nm75 rfl rfl (by have h := tadd_walk (f := q2) (G := 0) (ev := 2) (lim := 100) (ts := [stA]) (s := stC) (St.ownL (A := [.obj g 128 [.int .i64 ((0 : Nat) : Int), .int .i64 ((2 : Nat) : Int), .int .i64 100, .slice Ax4 ((tbytes 0 2 [stA]).length) cx5, .slice Bx6 ((tstarts 0 2 [stA]).length) dx7, .int .i64 ((lastS [stA]).kind), .int .i64 ((lastS [stA]).node), .int .i64 ((lastS [stA]).phase), .int .i64 ((lastS [stA]).pos), .int .i64 ((lastS [stA]).start), .int .i64 ((lastS [stA]).depth), .int .i64 ((lastS [stA]).org), .slice Cx8 ((lastS [stA]).caps.length) ex9], .row (.slice Ax4 ((tbytes 0 2 [stA]).length) cx5) 5 1 ((tbytes 0 2 [stA]).length) (u8s (tbytes 0 2 [stA])), .row (.slice Bx6 ((tstarts 0 2 [stA]).length) dx7) 3 1 ((tstarts 0 2 [stA]).length) (ints (tstarts 0 2 [stA])), .row (.slice Cx8 ((lastS [stA]).caps.length) ex9) 3 1 ((lastS [stA]).caps.length) (ints (lastS [stA]).caps)]) (R := [_, _]) S) ok_A lim_A (by decide) (S.rd 5 rfl) (St.apartRow (A := [.obj g 128 [.int .i64 ((0 : Nat) : Int), .int .i64 ((2 : Nat) : Int), .int .i64 100, .slice Ax4 ((tbytes 0 2 [stA]).length) cx5, .slice Bx6 ((tstarts 0 2 [stA]).length) dx7, .int .i64 ((lastS [stA]).kind), .int .i64 ((lastS [stA]).node), .int .i64 ((lastS [stA]).phase), .int .i64 ((lastS [stA]).pos), .int .i64 ((lastS [stA]).start), .int .i64 ((lastS [stA]).depth), .int .i64 ((lastS [stA]).org), .slice Cx8 ((lastS [stA]).caps.length) ex9], .row (.slice Ax4 ((tbytes 0 2 [stA]).length) cx5) 5 1 ((tbytes 0 2 [stA]).length) (u8s (tbytes 0 2 [stA])), .row (.slice Bx6 ((tstarts 0 2 [stA]).length) dx7) 3 1 ((tstarts 0 2 [stA]).length) (ints (tstarts 0 2 [stA])), .row (.slice Cx8 ((lastS [stA]).caps.length) ex9) 3 1 ((lastS [stA]).caps.length) (ints (lastS [stA]).caps)]) (R := [_, _]) S 1 rfl) (by decide); rw [addT_C.1, addT_C.2] at h; exact h) ?_; rintro e_ w ⟨rfl, Ax10, cx11, Bx12, dx13, Cx14, ex15, S_⟩; refine ⟨_, rfl, (fun h => by cases h), ?_⟩; clear E a; intro a E
  replace S : St _ _ _ [.obj _ _ [_, _, _, _, _, _, _, _, _, _, _, _, _], _, _, _, .obj _ _ [_, _, _, _, _, _, _, _], _] := St.call (A := [.obj g 128 [.int .i64 ((0 : Nat) : Int), .int .i64 ((2 : Nat) : Int), .int .i64 100, .slice Ax4 ((tbytes 0 2 [stA]).length) cx5, .slice Bx6 ((tstarts 0 2 [stA]).length) dx7, .int .i64 ((lastS [stA]).kind), .int .i64 ((lastS [stA]).node), .int .i64 ((lastS [stA]).phase), .int .i64 ((lastS [stA]).pos), .int .i64 ((lastS [stA]).start), .int .i64 ((lastS [stA]).depth), .int .i64 ((lastS [stA]).org), .slice Cx8 ((lastS [stA]).caps.length) ex9], .row (.slice Ax4 ((tbytes 0 2 [stA]).length) cx5) 5 1 ((tbytes 0 2 [stA]).length) (u8s (tbytes 0 2 [stA])), .row (.slice Bx6 ((tstarts 0 2 [stA]).length) dx7) 3 1 ((tstarts 0 2 [stA]).length) (ints (tstarts 0 2 [stA])), .row (.slice Cx8 ((lastS [stA]).caps.length) ex9) 3 1 ((lastS [stA]).caps.length) (ints (lastS [stA]).caps)]) (R := [_, _]) S S_; clear S_
  refine Run.assign rfl E rfl rfl rfl ?_; clear E a; intro a E
  refine Run.nil ?_
  refine then_n ?_
  refine wp_seq ?_
  refine region_plain (n := 10) [(0, .p), (1, .e), (2, .p), (3, .p), (4, .p), (5, .p), (6, .e), (7, .l), (8, .p), (9, .p)] rfl rfl ?_
  refine Run.move rfl E rfl rfl rfl ?_; clear E a; intro a E
  refine Run.call (args := [.pointer (some ⟨g, 0, none⟩), .int .i64 1]) rfl rfl E rfl rfl Try.func41 nm41 rfl rfl (tat_ok (k := 1) (t := stC) (St.holdsL (A := [.obj g 128 [.int .i64 ((0 : Nat) : Int), .int .i64 ((2 : Nat) : Int), .int .i64 100, .slice Ax10 ((tbytes 0 2 [stA, stC]).length) cx11, .slice Bx12 ((tstarts 0 2 [stA, stC]).length) dx13, .int .i64 ((lastS [stA, stC]).kind), .int .i64 ((lastS [stA, stC]).node), .int .i64 ((lastS [stA, stC]).phase), .int .i64 ((lastS [stA, stC]).pos), .int .i64 ((lastS [stA, stC]).start), .int .i64 ((lastS [stA, stC]).depth), .int .i64 ((lastS [stA, stC]).org), .slice Cx14 ((lastS [stA, stC]).caps.length) ex15], .row (.slice Ax10 ((tbytes 0 2 [stA, stC]).length) cx11) 5 1 ((tbytes 0 2 [stA, stC]).length) (u8s (tbytes 0 2 [stA, stC])), .row (.slice Bx12 ((tstarts 0 2 [stA, stC]).length) dx13) 3 1 ((tstarts 0 2 [stA, stC]).length) (ints (tstarts 0 2 [stA, stC])), .row (.slice Cx14 ((lastS [stA, stC]).caps.length) ex15) 3 1 ((lastS [stA, stC]).caps.length) (ints (lastS [stA, stC]).caps)]) (R := [_, _]) (S.sel [0, 1, 2, 3, 4, 5] ([.obj g 128 [.int .i64 ((0 : Nat) : Int), .int .i64 ((2 : Nat) : Int), .int .i64 100, .slice Ax10 ((tbytes 0 2 [stA, stC]).length) cx11, .slice Bx12 ((tstarts 0 2 [stA, stC]).length) dx13, .int .i64 ((lastS [stA, stC]).kind), .int .i64 ((lastS [stA, stC]).node), .int .i64 ((lastS [stA, stC]).phase), .int .i64 ((lastS [stA, stC]).pos), .int .i64 ((lastS [stA, stC]).start), .int .i64 ((lastS [stA, stC]).depth), .int .i64 ((lastS [stA, stC]).org), .slice Cx14 ((lastS [stA, stC]).caps.length) ex15], .row (.slice Ax10 ((tbytes 0 2 [stA, stC]).length) cx11) 5 1 ((tbytes 0 2 [stA, stC]).length) (u8s (tbytes 0 2 [stA, stC])), .row (.slice Bx12 ((tstarts 0 2 [stA, stC]).length) dx13) 3 1 ((tstarts 0 2 [stA, stC]).length) (ints (tstarts 0 2 [stA, stC])), .row (.slice Cx14 ((lastS [stA, stC]).caps.length) ex15) 3 1 ((lastS [stA, stC]).caps.length) (ints (lastS [stA, stC]).caps)] ++ [_, _]) rfl rfl)) ok_AC lim_AC (by decide) rfl) ?_; rintro e_ w ⟨D16, e17, rfl, S_⟩; refine ⟨_, rfl, (fun _ => S_.belT), ?_⟩; clear E a; intro a E
  replace S : St _ _ _ [_, .obj _ _ [_, _, _, _, _, _, _, _, _, _, _, _, _], _, _, _, .obj _ _ [_, _, _, _, _, _, _, _], _] := St.call (A := []) (R := [_, _, _, _, _, _]) S S_; clear S_
  refine Run.move rfl E rfl rfl rfl ?_; clear E a; intro a E
  refine Run.extract rfl E rfl rfl rfl rfl ?_; clear E a; intro a E
  refine Run.extract rfl E rfl rfl rfl rfl ?_; clear E a; intro a E
  refine Run.extract rfl E rfl rfl rfl rfl ?_; clear E a; intro a E
  refine Run.alloc rfl rfl E S rfl rfl z34 rfl ?_; clear E a S; intro b18 w a E S B_; clear B_
  refine Run.store (news := [.int .i64 14, .int .i64 0, .int .i64 0, .int .i64 0, .int .i64 0, .int .i64 0, .int .i64 (-1), .slice D16 2 e17]) (cs' := [_, _, _, _, _, _, _, _]) (hp' := [_, _, _, _, _, _, _, _]) 0 rfl E S rfl rfl rfl rfl rfl sz34 rfl rfl rfl rfl ?_; clear S; intro w S
  refine Run.assign rfl E rfl rfl rfl ?_; clear E a; intro a E
  refine Run.assign rfl E rfl rfl rfl ?_; clear E a; intro a E
  refine Run.nil ?_
  refine then_n ?_
  refine wp_seq ?_
  refine region_plain (n := 25) [(0, .p), (1, .p), (2, .p), (3, .p), (4, .p), (5, .p), (6, .p), (7, .p), (8, .p), (9, .p), (10, .p), (11, .p), (12, .p), (13, .p), (14, .p), (15, .p), (16, .l), (17, .p), (18, .p), (19, .p), (20, .p), (21, .e), (22, .p), (23, .p), (24, .p)] rfl rfl ?_
  refine Run.move rfl E rfl rfl rfl ?_; clear E a; intro a E
  refine Run.eqi rfl E rfl rfl rfl rfl (b := true) (by decide) ?_; clear E a; intro a E
  refine Run.move rfl E rfl rfl rfl ?_; clear E a; intro a E
  refine Run.move rfl E rfl rfl rfl ?_; clear E a; intro a E
  refine Run.eqi rfl E rfl rfl rfl rfl (b := true) (by decide) ?_; clear E a; intro a E
  refine Run.pickT rfl E rfl rfl rfl rfl ?_; clear E a; intro a E
  refine Run.move rfl E rfl rfl rfl ?_; clear E a; intro a E
  refine Run.move rfl E rfl rfl rfl ?_; clear E a; intro a E
  refine Run.eqi rfl E rfl rfl rfl rfl (b := true) (by decide) ?_; clear E a; intro a E
  refine Run.pickT rfl E rfl rfl rfl rfl ?_; clear E a; intro a E
  refine Run.move rfl E rfl rfl rfl ?_; clear E a; intro a E
  refine Run.move rfl E rfl rfl rfl ?_; clear E a; intro a E
  refine Run.eqi rfl E rfl rfl rfl rfl (b := true) (by decide) ?_; clear E a; intro a E
  refine Run.pickT rfl E rfl rfl rfl rfl ?_; clear E a; intro a E
  refine Run.move rfl E rfl rfl rfl ?_; clear E a; intro a E
  refine Run.fieldAddr rfl E rfl rfl rfl fo34_0 (rfl) ?_; clear E a; intro a E
  refine Run.load1 rfl rfl E S rfl rfl rfl one3 (fun _ s => s.objCell 0 0 rfl rfl) ?_; clear E a; intro a E
  refine Run.eqi rfl E rfl rfl rfl rfl (b := true) (by decide) ?_; clear E a; intro a E
  refine Run.pickT rfl E rfl rfl rfl rfl ?_; clear E a; intro a E
  refine Run.move rfl E rfl rfl rfl ?_; clear E a; intro a E
  refine Run.move rfl E rfl rfl rfl ?_; clear E a; intro a E
  refine Run.call (args := [.pointer (some ⟨g, 0, none⟩)]) rfl rfl E rfl rfl Try.func38 nm38 rfl rfl (tape_len (St.holdsL (A := [.obj g 128 [.int .i64 ((0 : Nat) : Int), .int .i64 ((2 : Nat) : Int), .int .i64 100, .slice Ax10 ((tbytes 0 2 [stA, stC]).length) cx11, .slice Bx12 ((tstarts 0 2 [stA, stC]).length) dx13, .int .i64 ((lastS [stA, stC]).kind), .int .i64 ((lastS [stA, stC]).node), .int .i64 ((lastS [stA, stC]).phase), .int .i64 ((lastS [stA, stC]).pos), .int .i64 ((lastS [stA, stC]).start), .int .i64 ((lastS [stA, stC]).depth), .int .i64 ((lastS [stA, stC]).org), .slice Cx14 ((lastS [stA, stC]).caps.length) ex15], .row (.slice Ax10 ((tbytes 0 2 [stA, stC]).length) cx11) 5 1 ((tbytes 0 2 [stA, stC]).length) (u8s (tbytes 0 2 [stA, stC])), .row (.slice Bx12 ((tstarts 0 2 [stA, stC]).length) dx13) 3 1 ((tstarts 0 2 [stA, stC]).length) (ints (tstarts 0 2 [stA, stC])), .row (.slice Cx14 ((lastS [stA, stC]).caps.length) ex15) 3 1 ((lastS [stA, stC]).caps.length) (ints (lastS [stA, stC]).caps)]) (R := [_, _, _, _]) (S.sel [2, 3, 4, 5, 0, 1, 6, 7] ([.obj g 128 [.int .i64 ((0 : Nat) : Int), .int .i64 ((2 : Nat) : Int), .int .i64 100, .slice Ax10 ((tbytes 0 2 [stA, stC]).length) cx11, .slice Bx12 ((tstarts 0 2 [stA, stC]).length) dx13, .int .i64 ((lastS [stA, stC]).kind), .int .i64 ((lastS [stA, stC]).node), .int .i64 ((lastS [stA, stC]).phase), .int .i64 ((lastS [stA, stC]).pos), .int .i64 ((lastS [stA, stC]).start), .int .i64 ((lastS [stA, stC]).depth), .int .i64 ((lastS [stA, stC]).org), .slice Cx14 ((lastS [stA, stC]).caps.length) ex15], .row (.slice Ax10 ((tbytes 0 2 [stA, stC]).length) cx11) 5 1 ((tbytes 0 2 [stA, stC]).length) (u8s (tbytes 0 2 [stA, stC])), .row (.slice Bx12 ((tstarts 0 2 [stA, stC]).length) dx13) 3 1 ((tstarts 0 2 [stA, stC]).length) (ints (tstarts 0 2 [stA, stC])), .row (.slice Cx14 ((lastS [stA, stC]).caps.length) ex15) 3 1 ((lastS [stA, stC]).caps.length) (ints (lastS [stA, stC]).caps)] ++ [_, _, _, _]) rfl rfl))) ?_; rintro e_ w ⟨rfl, B_⟩; refine ⟨_, rfl, fun _ => B_, ?_⟩; clear E a; replace S := S.bel B_; intro a E
  clear B_
  refine Run.eqi rfl E rfl rfl rfl rfl (decide_eq_true (by rw [tstarts_len]; rfl)) ?_; clear E a; intro a E
  refine Run.pickT rfl E rfl rfl rfl rfl ?_; clear E a; intro a E
  refine Run.assign rfl E rfl rfl rfl ?_; clear E a; intro a E
  refine Run.nil ?_
  refine then_n ?_
  refine wp_ret ?_
  exact ret1 E Try.results68 rfl ⟨rfl, S.belT⟩

theorem taped19_walk (hG : G ≤ 99) (he0 : 1 ≤ ev) (he1 : ev ≤ 1024) (hl0 : 0 ≤ lim) (hl1 : lim ≤ 16777216) (hL : Rd w0 L l.length 8 (stams l)) (hL2 : ∀ x ∈ l, x.ok w0) (hll : l.length ≤ 200) (h0 : ts0 = takes G ev lim (l.map StaM.s)) : Calls Try.prog 70 [.agg #[.int .i64 (G : Int), .int .i64 (ev : Int), .int .i64 lim], .slice L l.length cL].toArray w0 (fun r w' => ∃ g A c B d C e O cO, ∃ own : List StaM, own.map StaM.s = ts0 ∧ r = .returned (.tuple #[.pointer (some ⟨g, 0, none⟩), .slice O own.length cO]) ∧ St [] w0 w' [.obj g 128 [.int .i64 (G : Int), .int .i64 (ev : Int), .int .i64 lim, .slice A ((tbytes G ev ts0).length) c, .slice B ((tstarts G ev ts0).length) d, .int .i64 ((lastS ts0).kind), .int .i64 ((lastS ts0).node), .int .i64 ((lastS ts0).phase), .int .i64 ((lastS ts0).pos), .int .i64 ((lastS ts0).start), .int .i64 ((lastS ts0).depth), .int .i64 ((lastS ts0).org), .slice C ((lastS ts0).caps.length) e], .row (.slice A ((tbytes G ev ts0).length) c) 5 1 ((tbytes G ev ts0).length) (u8s (tbytes G ev ts0)), .row (.slice B ((tstarts G ev ts0).length) d) 3 1 ((tstarts G ev ts0).length) (ints (tstarts G ev ts0)), .row (.slice C ((lastS ts0).caps.length) e) 3 1 ((lastS ts0).caps.length) (ints (lastS ts0).caps), .row (.slice O own.length cO) 34 8 own.length (stams own), .rows (own.map StaM.irow)]) := by
  have S := St.nil [] w0
  refine fn_start Try.func70 rfl 45 rfl rfl [(0, _), (1, _)] ⟨rfl, rfl, trivial⟩ ?_; intro a E
  refine wp_seq ?_
  refine region_plain (n := 3) [(0, .e), (1, .p), (2, .p)] rfl rfl ?_
  refine Run.box (cs := [.int .i64 (G : Int), .int .i64 (ev : Int), .int .i64 lim]) rfl rfl E S rfl rfl rfl rfl ?_; clear E a S; intro b1 w a E S B_; clear B_
  refine Run.assign rfl E rfl rfl rfl ?_; clear E a; intro a E
  refine Run.assign rfl E rfl rfl rfl ?_; clear E a; intro a E
  refine Run.nil ?_
  refine then_n ?_
  refine wp_seq ?_
  refine region_plain (n := 12) [(0, .p), (1, .l), (2, .p), (3, .l), (4, .p), (5, .l), (6, .e), (7, .p), (8, .p), (9, .p), (10, .p), (11, .p)] rfl rfl ?_
  refine Run.fieldAddr rfl E rfl rfl rfl fo102_0 (rfl) ?_; clear E a; intro a E
  refine Run.load1 rfl rfl E S rfl rfl rfl one3 (fun _ s => s.objCell 0 0 rfl rfl) ?_; clear E a; intro a E
  refine Run.fieldAddr rfl E rfl rfl rfl fo102_1 (rfl) ?_; clear E a; intro a E
  refine Run.load1 rfl rfl E S rfl rfl rfl one3 (fun _ s => s.objCell 0 1 rfl rfl) ?_; clear E a; intro a E
  refine Run.fieldAddr rfl E rfl rfl rfl fo102_2 (rfl) ?_; clear E a; intro a E
  refine Run.load1 rfl rfl E S rfl rfl rfl one3 (fun _ s => s.objCell 0 2 rfl rfl) ?_; clear E a; intro a E
  refine Run.call (args := [.int .i64 (G : Int), .int .i64 (ev : Int), .int .i64 lim]) rfl rfl E rfl rfl Try.func73 nm73 rfl rfl (tape_new (G := G) (ev := ev) (lim := lim) hG he0 he1 hl0 hl1) ?_; rintro e_ w ⟨g, rfl, S_⟩; refine ⟨_, rfl, (fun _ => S_.belT), ?_⟩; clear E a; intro a E
  replace S : St _ _ _ [.obj _ _ [_, _, _, _, _, _, _, _, _, _, _, _, _], _, _, _, .obj _ _ [_, _, _]] := St.call (A := []) (R := [_]) S S_; clear S_
  refine Run.move rfl E rfl rfl rfl ?_; clear E a; intro a E
  refine Run.extract rfl E rfl rfl rfl rfl ?_; clear E a; intro a E
  refine Run.extract rfl E rfl rfl rfl rfl ?_; clear E a; intro a E
  refine Run.assign rfl E rfl rfl rfl ?_; clear E a; intro a E
  refine Run.assign rfl E rfl rfl rfl ?_; clear E a; intro a E
  refine Run.nil ?_
  refine then_n ?_
  refine wp_seq ?_
  refine wp_seq ?_
  refine region_plain (n := 6) [(0, .p), (1, .p), (2, .p), (3, .p), (4, .p), (5, .p)] rfl rfl ?_
  refine Run.move rfl E rfl rfl rfl ?_; clear E a; intro a E
  refine Run.nei rfl E rfl rfl rfl rfl (b := false) (by decide) ?_; clear E a; intro a E
  refine Run.move rfl E rfl rfl rfl ?_; clear E a; intro a E
  refine Run.move rfl E rfl rfl rfl ?_; clear E a; intro a E
  refine Run.bin (v := .bool false) rfl E rfl rfl rfl rfl (fun _ => by kernel_rfl) ?_; clear E a; intro a E
  refine Run.pickF rfl E rfl rfl rfl rfl ?_; clear E a; intro a E
  refine Run.nil ?_
  refine then_n ?_
  refine cond_F E rfl ?_
  refine wp_skip ?_
  refine then_n ?_
  refine wp_seq ?_
  refine region_plain (n := 1) [(0, .p)] rfl rfl ?_
  refine Run.assign rfl E rfl rfl rfl ?_; clear E a; intro a E
  refine Run.nil ?_
  refine then_n ?_
  refine wp_seq ?_
  refine wp_seq ?_
  refine region_plain (n := 3) [(0, .p), (1, .p), (2, .p)] rfl rfl ?_
  refine Run.move rfl E rfl rfl rfl ?_; clear E a; intro a E
  refine Run.len rfl E rfl rfl rfl Try.underlying50 ?_; clear E a; intro a E
  refine Run.move rfl E rfl rfl rfl ?_; clear E a; intro a E
  refine Run.nil ?_
  refine then_n ?_
  refine wp_block ?_
  replace S := (S.addRows).addNil 34 8
  have S : St _ _ _ [_, _, _, _, _, _, _] := S.sel [6, 2, 3, 4, 5, 0, 1] _ rfl rfl
  have S := S.drop1
  refine wp_loop_ghost (fun n_ a w => ∃ i : Nat, ∃ A : Option Addr, ∃ c : Nat, ∃ B : Option Addr, ∃ d : Nat, ∃ C : Option Addr, ∃ e : Nat, ∃ ts : List Sta, ∃ own : List StaM, ∃ O : Option Addr, ∃ cO : Nat, l.length - i = n_ ∧ Env 45 [(4, .pointer none), (5, .slice none 0 0), (6, .pointer (some ⟨g, 0, none⟩)), (8, .slice O own.length cO), (27, .slice L l.length cL), (28, .int .i64 (l.length : Int)), (29, .int .i64 (i : Int))] a ∧ St _ _ w [.obj g 128 [.int .i64 (G : Int), .int .i64 (ev : Int), .int .i64 lim, .slice A ((tbytes G ev ts).length) c, .slice B ((tstarts G ev ts).length) d, .int .i64 ((lastS ts).kind), .int .i64 ((lastS ts).node), .int .i64 ((lastS ts).phase), .int .i64 ((lastS ts).pos), .int .i64 ((lastS ts).start), .int .i64 ((lastS ts).depth), .int .i64 ((lastS ts).org), .slice C ((lastS ts).caps.length) e], .row (.slice A ((tbytes G ev ts).length) c) 5 1 ((tbytes G ev ts).length) (u8s (tbytes G ev ts)), .row (.slice B ((tstarts G ev ts).length) d) 3 1 ((tstarts G ev ts).length) (ints (tstarts G ev ts)), .row (.slice C ((lastS ts).caps.length) e) 3 1 ((lastS ts).caps.length) (ints (lastS ts).caps), .row (.slice O own.length cO) 34 8 own.length (stams own), .rows (own.map StaM.irow)] ∧ (i ≤ l.length) ∧ (ts = takes G ev lim ((l.map StaM.s).take i)) ∧ (own.map StaM.s = ts)) _ ⟨0, none, 0, none, 0, none, 0, [], [], none, 0, rfl, E.keeps [(4, _), (5, _), (6, _), (8, _), (27, _), (28, _), (29, _)] ⟨rfl, rfl, rfl, rfl, rfl, rfl, rfl, trivial⟩, S, Nat.zero_le _, rfl, rfl⟩ ?_
  clear E a S
  rintro n_ a w ⟨i, A, c, B, d, C, e, ts, own, O, cO, rfl, E, S, hi, hts, hown⟩
  refine wp_seq ?_
  refine region_plain (n := 1) [(0, .p)] rfl rfl ?_
  by_cases hlt : i < l.length
  · skip
    have hok : TapeOK G ev ts := by rw [hts]; exact takes_ok _ hG he0 he1 _
    have hlim : ((tbytes G ev ts).length : Int) ≤ lim := by rw [hts]; exact takes_lim hl0 _
    have htl : ts.length ≤ l.length := by have := takes_len G ev lim ((l.map StaM.s).take i); rw [← hts] at this; simp at this; omega
    have hol : own.length = ts.length := by rw [← hown, List.length_map]
    obtain ⟨x, hx⟩ : ∃ x, l[i]? = some x := ⟨_, List.getElem?_eq_getElem hlt⟩
    obtain ⟨hx1, hx2⟩ := hL2 x (List.mem_of_getElem? hx)
    have hx3 : x.s.caps.length ≤ 140737488355328 := by unfold reachBytes at hx2; omega
    have hts2 := takes_take G ev lim (l.map StaM.s) (i := i) (s := x.s) (by rw [List.getElem?_map, hx]; rfl)
    rw [← hts] at hts2
    obtain ⟨bL, oL, rfl, hLc⟩ := hL.place (by omega)
    refine Run.lss rfl E rfl rfl rfl rfl (decide_eq_true (by omega)) ?_; clear E a; intro a E
    refine Run.nil ?_
    refine then_n ?_
    refine wp_seq ?_
    refine cond_T E rfl ?_
    refine wp_skip ?_
    refine then_n ?_
    refine wp_seq ?_
    refine wp_block ?_
    refine wp_seq ?_
    refine region_plain (n := 4) [(0, .p), (1, .l), (2, .e), (3, .l)] rfl rfl ?_
    refine Run.indexAddr rfl E rfl rfl rfl rfl Try.underlying50 sz34 (by omega) (ix_at' (m' := i) (by omega)) ?_; clear E a; intro a E
    refine Run.loadN (cs := [.int .i64 x.s.kind, .int .i64 x.s.node, .int .i64 x.s.phase, .int .i64 x.s.pos, .int .i64 x.s.start, .int .i64 x.s.depth, .int .i64 x.s.org, .slice x.A x.s.caps.length x.c]) rfl rfl E S rfl rfl rfl ag34 rfl (fun _ s_ => rdAtL hLc s_ _ _ (stams_get hx)) ?_; clear E a; intro a E
    refine Run.alloc rfl rfl E S rfl rfl z34 rfl ?_; clear E a S; intro b2 w a E S B_; clear B_
    refine Run.store (news := [.int .i64 x.s.kind, .int .i64 x.s.node, .int .i64 x.s.phase, .int .i64 x.s.pos, .int .i64 x.s.start, .int .i64 x.s.depth, .int .i64 x.s.org, .slice x.A x.s.caps.length x.c]) (cs' := [_, _, _, _, _, _, _, _]) (hp' := [_, _, _, _, _, _, _]) 0 rfl E S rfl rfl rfl rfl rfl sz34 rfl rfl rfl rfl ?_; clear S; intro w S
    refine Run.nil ?_
    refine then_n ?_
    refine wp_seq ?_
    refine region_plain (n := 4) [(0, .p), (1, .l), (2, .l), (3, .p)] rfl rfl ?_
    refine Run.move rfl E rfl rfl rfl ?_; clear E a; intro a E
    refine Run.loadN (cs := [.int .i64 x.s.kind, .int .i64 x.s.node, .int .i64 x.s.phase, .int .i64 x.s.pos, .int .i64 x.s.start, .int .i64 x.s.depth, .int .i64 x.s.org, .slice x.A x.s.caps.length x.c]) rfl rfl E S rfl rfl rfl ag34 rfl (fun _ s => objAll s 0 rfl) ?_; clear E a; intro a E
    replace S : St _ _ _ [.obj _ _ [_, _, _, _, _, _, _, _, _, _, _, _, _], _, _, _, .obj _ _ [_, _, _, _, _, _, _, _], _, _] := S.sel [1, 2, 3, 4, 0, 5, 6] _ rfl rfl
    refine Run.call (args := [.pointer (some ⟨g, 0, none⟩), .agg #[.int .i64 x.s.kind, .int .i64 x.s.node, .int .i64 x.s.phase, .int .i64 x.s.pos, .int .i64 x.s.start, .int .i64 x.s.depth, .int .i64 x.s.org, .slice x.A x.s.caps.length x.c]]) rfl rfl E rfl rfl Try.func75 nm75 rfl rfl (tadd_walk (f := x.c) (G := G) (ev := ev) (lim := lim) (ts := ts) (s := x.s) (St.ownL (A := [.obj g 128 [.int .i64 (G : Int), .int .i64 (ev : Int), .int .i64 lim, .slice A ((tbytes G ev ts).length) c, .slice B ((tstarts G ev ts).length) d, .int .i64 ((lastS ts).kind), .int .i64 ((lastS ts).node), .int .i64 ((lastS ts).phase), .int .i64 ((lastS ts).pos), .int .i64 ((lastS ts).start), .int .i64 ((lastS ts).depth), .int .i64 ((lastS ts).org), .slice C ((lastS ts).caps.length) e], .row (.slice A ((tbytes G ev ts).length) c) 5 1 ((tbytes G ev ts).length) (u8s (tbytes G ev ts)), .row (.slice B ((tstarts G ev ts).length) d) 3 1 ((tstarts G ev ts).length) (ints (tstarts G ev ts)), .row (.slice C ((lastS ts).caps.length) e) 3 1 ((lastS ts).caps.length) (ints (lastS ts).caps)]) (R := [_, _, _]) S) hok hlim hl1 (hx1.bel S.belT) (fun h_ b_ o_ e_ m_ => absurd (St.newL (A := [.obj g 128 [.int .i64 (G : Int), .int .i64 (ev : Int), .int .i64 lim, .slice A ((tbytes G ev ts).length) c, .slice B ((tstarts G ev ts).length) d, .int .i64 ((lastS ts).kind), .int .i64 ((lastS ts).node), .int .i64 ((lastS ts).phase), .int .i64 ((lastS ts).pos), .int .i64 ((lastS ts).start), .int .i64 ((lastS ts).depth), .int .i64 ((lastS ts).org), .slice C ((lastS ts).caps.length) e], .row (.slice A ((tbytes G ev ts).length) c) 5 1 ((tbytes G ev ts).length) (u8s (tbytes G ev ts)), .row (.slice B ((tstarts G ev ts).length) d) 3 1 ((tstarts G ev ts).length) (ints (tstarts G ev ts)), .row (.slice C ((lastS ts).caps.length) e) 3 1 ((lastS ts).caps.length) (ints (lastS ts).caps)]) (R := [_, _, _]) S m_) (Nat.not_le.2 (hx1.lt h_ (by decide) e_))) (hx3)) ?_; rintro e_ w ⟨rfl, Ax3, cx4, Bx5, dx6, Cx7, ex8, S_⟩; refine ⟨_, rfl, (fun h => by cases h), ?_⟩; clear E a; intro a E
    replace S : St _ _ _ [.obj _ _ [_, _, _, _, _, _, _, _, _, _, _, _, _], _, _, _, .obj _ _ [_, _, _, _, _, _, _, _], _, _] := St.call (A := [.obj g 128 [.int .i64 (G : Int), .int .i64 (ev : Int), .int .i64 lim, .slice A ((tbytes G ev ts).length) c, .slice B ((tstarts G ev ts).length) d, .int .i64 ((lastS ts).kind), .int .i64 ((lastS ts).node), .int .i64 ((lastS ts).phase), .int .i64 ((lastS ts).pos), .int .i64 ((lastS ts).start), .int .i64 ((lastS ts).depth), .int .i64 ((lastS ts).org), .slice C ((lastS ts).caps.length) e], .row (.slice A ((tbytes G ev ts).length) c) 5 1 ((tbytes G ev ts).length) (u8s (tbytes G ev ts)), .row (.slice B ((tstarts G ev ts).length) d) 3 1 ((tstarts G ev ts).length) (ints (tstarts G ev ts)), .row (.slice C ((lastS ts).caps.length) e) 3 1 ((lastS ts).caps.length) (ints (lastS ts).caps)]) (R := [_, _, _]) S S_; clear S_
    rcases addE_zero (G := G) (ev := ev) (lim := lim) (ts := ts) (s := x.s) with ⟨hE, hT⟩ | ⟨hE, hT⟩
    · skip
      rw [hT] at S
      have hcl : x.s.caps.length ≤ 202 := by
        by_cases hR : x.s.Right (G : Int)
        · have := right_capl hR; omega
        · unfold addE at hE; rw [if_neg hR] at hE; cases hE
      refine Run.eqi rfl E rfl rfl rfl rfl (decide_eq_true (hE)) ?_; clear E a; intro a E
      refine Run.nil ?_
      refine then_n ?_
      refine cond_T E rfl ?_
      refine region_plain (n := 6) [(0, .p), (1, .l), (2, .e), (3, .e), (4, .l), (5, .p)] rfl rfl ?_
      refine Run.move rfl E rfl rfl rfl ?_; clear E a; intro a E
      refine Run.loadN (cs := [.int .i64 x.s.kind, .int .i64 x.s.node, .int .i64 x.s.phase, .int .i64 x.s.pos, .int .i64 x.s.start, .int .i64 x.s.depth, .int .i64 x.s.org, .slice x.A x.s.caps.length x.c]) rfl rfl E S rfl rfl rfl ag34 rfl (fun _ s => objAll s 4 rfl) ?_; clear E a; intro a E
      refine Run.call (args := [.agg #[.int .i64 x.s.kind, .int .i64 x.s.node, .int .i64 x.s.phase, .int .i64 x.s.pos, .int .i64 x.s.start, .int .i64 x.s.depth, .int .i64 x.s.org, .slice x.A x.s.caps.length x.c]]) rfl rfl E rfl rfl Try.func44 nm44 rfl rfl (own_walk (s := x.s) (hx1.bel S.belT) (by omega)) ?_; rintro e_ w ⟨D9, e10, rfl, S_⟩; refine ⟨_, rfl, (fun _ => S_.belT), ?_⟩; clear E a; intro a E
      replace S : St _ _ _ [_, .obj _ _ [_, _, _, _, _, _, _, _, _, _, _, _, _], _, _, _, .obj _ _ [_, _, _, _, _, _, _, _], _, _] := St.call (A := []) (R := [_, _, _, _, _, _, _]) S S_; clear S_
      refine Run.buildSlice (cs := [.int .i64 x.s.kind, .int .i64 x.s.node, .int .i64 x.s.phase, .int .i64 x.s.pos, .int .i64 x.s.start, .int .i64 x.s.depth, .int .i64 x.s.org, .slice D9 x.s.caps.length e10]) [(0, .agg #[.int .i64 x.s.kind, .int .i64 x.s.node, .int .i64 x.s.phase, .int .i64 x.s.pos, .int .i64 x.s.start, .int .i64 x.s.depth, .int .i64 x.s.org, .slice D9 x.s.caps.length e10])] rfl rfl E S rfl rfl rfl Try.underlying50 (by kernel_rfl) ?_; clear E a S; intro b11 w a E S B_; clear B_
      refine Run.append (news := [.int .i64 x.s.kind, .int .i64 x.s.node, .int .i64 x.s.phase, .int .i64 x.s.pos, .int .i64 x.s.start, .int .i64 x.s.depth, .int .i64 x.s.org, .slice D9 x.s.caps.length e10]) (nm := own.length + 1) 7 rfl E S rfl rfl rfl rfl rfl Try.underlying50 I34 rfl rfl rfl (objNews S 0 rfl) (by simp [Value.oneCell']) (by omega) (by omega) (by omega) ?_; clear E a S; intro A12 c13 w a E S
      replace S : St _ _ _ [.obj _ _ [_, _, _, _, _, _, _, _], _, .obj _ _ [_, _, _, _, _, _, _, _, _, _, _, _, _], _, _, _, .obj _ _ [_, _, _, _, _, _, _, _], _, _] := S
      refine Run.assign rfl E rfl rfl rfl ?_; clear E a; intro a E
      refine Run.nil ?_
      refine blk_n ?_
      refine then_n ?_
      refine region_plain (n := 2) [(0, .p), (1, .p)] rfl rfl ?_
      refine Run.add rfl E rfl rfl rfl rfl (i64_ok (by omega)) ?_; clear E a; intro a E
      refine Run.move rfl E rfl rfl rfl ?_; clear E a; intro a E
      refine Run.nil ?_
      refine then_n ?_
      replace E := E.setv 29 rfl (show Value.int .i64 ((i : Int) + 1) = .int .i64 ((i + 1 : Nat) : Int) from rfl)
      have S : St _ _ _ [_, _, _, _, _, _, _, _, _] := S.sel [0, 6, 1, 8, 7, 2, 3, 4, 5] _ rfl rfl
      have S := S.drop1.drop1
      replace S := S.rowsSnoc rfl
      rw [stams_snoc, irows_snoc] at S
      have e1 : (own ++ [(⟨x.s, D9, e10⟩ : StaM)]).length = own.length + 1 := by simp
      rw [← e1] at S E
      replace S : St _ _ _ [_, _, _, _, _, _] := S.sel [2, 3, 4, 5, 1, 0] _ rfl rfl
      exact ⟨_, (by omega), (i + 1), Ax3, cx4, Bx5, dx6, Cx7, ex8, (ts ++ [x.s]), (own ++ [⟨x.s, D9, e10⟩]), A12, c13, rfl, E.keeps [(4, _), (5, _), (6, _), (8, _), (27, _), (28, _), (29, _)] ⟨rfl, rfl, rfl, rfl, rfl, rfl, rfl, trivial⟩, S, (by omega), (by rw [hts2, hT]), (by rw [List.map_append, hown]; rfl)⟩
    · skip
      rw [hT] at S
      refine Run.eqi rfl E rfl rfl rfl rfl (decide_eq_false (hE)) ?_; clear E a; intro a E
      refine Run.nil ?_
      refine then_n ?_
      refine cond_F E rfl ?_
      refine wp_skip ?_
      refine blk_n ?_
      refine then_n ?_
      refine region_plain (n := 2) [(0, .p), (1, .p)] rfl rfl ?_
      refine Run.add rfl E rfl rfl rfl rfl (i64_ok (by omega)) ?_; clear E a; intro a E
      refine Run.move rfl E rfl rfl rfl ?_; clear E a; intro a E
      refine Run.nil ?_
      refine then_n ?_
      replace E := E.setv 29 rfl (show Value.int .i64 ((i : Int) + 1) = .int .i64 ((i + 1 : Nat) : Int) from rfl)
      have S : St _ _ _ [_, _, _, _, _, _, _] := S.sel [4, 0, 1, 2, 3, 5, 6] _ rfl rfl
      have S := S.drop1
      exact ⟨_, (by omega), (i + 1), Ax3, cx4, Bx5, dx6, Cx7, ex8, ts, own, O, cO, rfl, E.keeps [(4, _), (5, _), (6, _), (8, _), (27, _), (28, _), (29, _)] ⟨rfl, rfl, rfl, rfl, rfl, rfl, rfl, trivial⟩, S, (by omega), (by rw [hts2, hT]), (by exact hown)⟩
  · skip
    refine Run.lss rfl E rfl rfl rfl rfl (decide_eq_false (by omega)) ?_; clear E a; intro a E
    refine Run.nil ?_
    refine then_n ?_
    refine wp_seq ?_
    refine cond_F E rfl ?_
    refine wp_exit ?_
    refine then_x ?_
    refine then_x ?_
    refine blk_x ?_
    refine then_n ?_
    refine wp_seq ?_
    refine region_plain (n := 4) [(0, .p), (1, .p), (2, .p), (3, .p)] rfl rfl ?_
    refine Run.move rfl E rfl rfl rfl ?_; clear E a; intro a E
    refine Run.move rfl E rfl rfl rfl ?_; clear E a; intro a E
    refine Run.assign rfl E rfl rfl rfl ?_; clear E a; intro a E
    refine Run.assign rfl E rfl rfl rfl ?_; clear E a; intro a E
    refine Run.nil ?_
    refine then_n ?_
    refine wp_ret ?_
    have hi2 : i = l.length := by omega
    subst hi2
    rw [List.take_of_length_le (by simp)] at hts
    obtain rfl : ts0 = ts := by rw [hts, h0]
    have S : St _ _ _ [_, _, _, _, _, _] := S.sel [0, 1, 2, 3, 4, 5] _ rfl rfl
    exact ret2 E Try.results70 rfl rfl ⟨g, A, c, B, d, C, e, O, cO, own, hown, rfl, S⟩

theorem taped20_walk (hG : G ≤ 99) (he0 : 1 ≤ ev) (he1 : ev ≤ 1024) (hL : Rd w0 L l.length 8 (stams l)) (hL2 : ∀ x ∈ l, x.ok w0) (hll : l.length ≤ 200) (h0 : ts0 = takes G ev 16777216 (l.map StaM.s)) : Calls Try.prog 37 [.int .i64 (G : Int), .int .i64 (ev : Int), .slice L l.length cL].toArray w0 (fun r w' => ∃ g A c B d C e O cO, ∃ own : List StaM, own.map StaM.s = ts0 ∧ r = .returned (.tuple #[.pointer (some ⟨g, 0, none⟩), .slice O own.length cO]) ∧ St [] w0 w' [.obj g 128 [.int .i64 (G : Int), .int .i64 (ev : Int), .int .i64 16777216, .slice A ((tbytes G ev ts0).length) c, .slice B ((tstarts G ev ts0).length) d, .int .i64 ((lastS ts0).kind), .int .i64 ((lastS ts0).node), .int .i64 ((lastS ts0).phase), .int .i64 ((lastS ts0).pos), .int .i64 ((lastS ts0).start), .int .i64 ((lastS ts0).depth), .int .i64 ((lastS ts0).org), .slice C ((lastS ts0).caps.length) e], .row (.slice A ((tbytes G ev ts0).length) c) 5 1 ((tbytes G ev ts0).length) (u8s (tbytes G ev ts0)), .row (.slice B ((tstarts G ev ts0).length) d) 3 1 ((tstarts G ev ts0).length) (ints (tstarts G ev ts0)), .row (.slice C ((lastS ts0).caps.length) e) 3 1 ((lastS ts0).caps.length) (ints (lastS ts0).caps), .row (.slice O own.length cO) 34 8 own.length (stams own), .rows (own.map StaM.irow)]) := by
  have S := St.nil [] w0
  refine fn_start Try.func37 rfl 43 rfl rfl [(0, _), (1, _), (2, _)] ⟨rfl, rfl, rfl, trivial⟩ ?_; intro a E
  refine wp_seq ?_
  refine region_plain (n := 2) [(0, .p), (1, .p)] rfl rfl ?_
  refine Run.assign rfl E rfl rfl rfl ?_; clear E a; intro a E
  refine Run.assign rfl E rfl rfl rfl ?_; clear E a; intro a E
  refine Run.nil ?_
  refine then_n ?_
  refine wp_seq ?_
  refine region_plain (n := 8) [(0, .p), (1, .p), (2, .e), (3, .p), (4, .p), (5, .p), (6, .p), (7, .p)] rfl rfl ?_
  refine Run.move rfl E rfl rfl rfl ?_; clear E a; intro a E
  refine Run.move rfl E rfl rfl rfl ?_; clear E a; intro a E
  refine Run.call (args := [.int .i64 (G : Int), .int .i64 (ev : Int), .int .i64 16777216]) rfl rfl E rfl rfl Try.func73 nm73 rfl rfl (tape_new (G := G) (ev := ev) (lim := 16777216) hG he0 he1 (by decide) (by decide)) ?_; rintro e_ w ⟨g, rfl, S_⟩; refine ⟨_, rfl, (fun _ => S_.belT), ?_⟩; clear E a; intro a E
  replace S : St _ _ _ [.obj _ _ [_, _, _, _, _, _, _, _, _, _, _, _, _], _, _, _] := St.call (A := []) (R := []) S S_; clear S_
  refine Run.move rfl E rfl rfl rfl ?_; clear E a; intro a E
  refine Run.extract rfl E rfl rfl rfl rfl ?_; clear E a; intro a E
  refine Run.extract rfl E rfl rfl rfl rfl ?_; clear E a; intro a E
  refine Run.assign rfl E rfl rfl rfl ?_; clear E a; intro a E
  refine Run.assign rfl E rfl rfl rfl ?_; clear E a; intro a E
  refine Run.nil ?_
  refine then_n ?_
  refine wp_seq ?_
  refine wp_seq ?_
  refine region_plain (n := 6) [(0, .p), (1, .p), (2, .p), (3, .p), (4, .p), (5, .p)] rfl rfl ?_
  refine Run.move rfl E rfl rfl rfl ?_; clear E a; intro a E
  refine Run.nei rfl E rfl rfl rfl rfl (b := false) (by decide) ?_; clear E a; intro a E
  refine Run.move rfl E rfl rfl rfl ?_; clear E a; intro a E
  refine Run.move rfl E rfl rfl rfl ?_; clear E a; intro a E
  refine Run.bin (v := .bool false) rfl E rfl rfl rfl rfl (fun _ => by kernel_rfl) ?_; clear E a; intro a E
  refine Run.pickF rfl E rfl rfl rfl rfl ?_; clear E a; intro a E
  refine Run.nil ?_
  refine then_n ?_
  refine cond_F E rfl ?_
  refine wp_skip ?_
  refine then_n ?_
  refine wp_seq ?_
  refine region_plain (n := 1) [(0, .p)] rfl rfl ?_
  refine Run.assign rfl E rfl rfl rfl ?_; clear E a; intro a E
  refine Run.nil ?_
  refine then_n ?_
  refine wp_seq ?_
  refine wp_seq ?_
  refine region_plain (n := 3) [(0, .p), (1, .p), (2, .p)] rfl rfl ?_
  refine Run.move rfl E rfl rfl rfl ?_; clear E a; intro a E
  refine Run.len rfl E rfl rfl rfl Try.underlying50 ?_; clear E a; intro a E
  refine Run.move rfl E rfl rfl rfl ?_; clear E a; intro a E
  refine Run.nil ?_
  refine then_n ?_
  refine wp_block ?_
  replace S := (S.addRows).addNil 34 8
  have S : St _ _ _ [_, _, _, _, _, _] := S.sel [2, 3, 4, 5, 0, 1] _ rfl rfl
  refine wp_loop_ghost (fun n_ a w => ∃ i : Nat, ∃ A : Option Addr, ∃ c : Nat, ∃ B : Option Addr, ∃ d : Nat, ∃ C : Option Addr, ∃ e : Nat, ∃ ts : List Sta, ∃ own : List StaM, ∃ O : Option Addr, ∃ cO : Nat, l.length - i = n_ ∧ Env 43 [(6, .pointer none), (7, .slice none 0 0), (8, .pointer (some ⟨g, 0, none⟩)), (10, .slice O own.length cO), (25, .slice L l.length cL), (26, .int .i64 (l.length : Int)), (27, .int .i64 (i : Int))] a ∧ St _ _ w [.obj g 128 [.int .i64 (G : Int), .int .i64 (ev : Int), .int .i64 16777216, .slice A ((tbytes G ev ts).length) c, .slice B ((tstarts G ev ts).length) d, .int .i64 ((lastS ts).kind), .int .i64 ((lastS ts).node), .int .i64 ((lastS ts).phase), .int .i64 ((lastS ts).pos), .int .i64 ((lastS ts).start), .int .i64 ((lastS ts).depth), .int .i64 ((lastS ts).org), .slice C ((lastS ts).caps.length) e], .row (.slice A ((tbytes G ev ts).length) c) 5 1 ((tbytes G ev ts).length) (u8s (tbytes G ev ts)), .row (.slice B ((tstarts G ev ts).length) d) 3 1 ((tstarts G ev ts).length) (ints (tstarts G ev ts)), .row (.slice C ((lastS ts).caps.length) e) 3 1 ((lastS ts).caps.length) (ints (lastS ts).caps), .row (.slice O own.length cO) 34 8 own.length (stams own), .rows (own.map StaM.irow)] ∧ (i ≤ l.length) ∧ (ts = takes G ev 16777216 ((l.map StaM.s).take i)) ∧ (own.map StaM.s = ts)) _ ⟨0, none, 0, none, 0, none, 0, [], [], none, 0, rfl, E.keeps [(6, _), (7, _), (8, _), (10, _), (25, _), (26, _), (27, _)] ⟨rfl, rfl, rfl, rfl, rfl, rfl, rfl, trivial⟩, S, Nat.zero_le _, rfl, rfl⟩ ?_
  clear E a S
  rintro n_ a w ⟨i, A, c, B, d, C, e, ts, own, O, cO, rfl, E, S, hi, hts, hown⟩
  refine wp_seq ?_
  refine region_plain (n := 1) [(0, .p)] rfl rfl ?_
  by_cases hlt : i < l.length
  · skip
    have hok : TapeOK G ev ts := by rw [hts]; exact takes_ok _ hG he0 he1 _
    have hlim : ((tbytes G ev ts).length : Int) ≤ 16777216 := by rw [hts]; exact takes_lim (by decide) _
    have htl : ts.length ≤ l.length := by have := takes_len G ev 16777216 ((l.map StaM.s).take i); rw [← hts] at this; simp at this; omega
    have hol : own.length = ts.length := by rw [← hown, List.length_map]
    obtain ⟨x, hx⟩ : ∃ x, l[i]? = some x := ⟨_, List.getElem?_eq_getElem hlt⟩
    obtain ⟨hx1, hx2⟩ := hL2 x (List.mem_of_getElem? hx)
    have hx3 : x.s.caps.length ≤ 140737488355328 := by unfold reachBytes at hx2; omega
    have hts2 := takes_take G ev 16777216 (l.map StaM.s) (i := i) (s := x.s) (by rw [List.getElem?_map, hx]; rfl)
    rw [← hts] at hts2
    obtain ⟨bL, oL, rfl, hLc⟩ := hL.place (by omega)
    refine Run.lss rfl E rfl rfl rfl rfl (decide_eq_true (by omega)) ?_; clear E a; intro a E
    refine Run.nil ?_
    refine then_n ?_
    refine wp_seq ?_
    refine cond_T E rfl ?_
    refine wp_skip ?_
    refine then_n ?_
    refine wp_seq ?_
    refine wp_block ?_
    refine wp_seq ?_
    refine region_plain (n := 4) [(0, .p), (1, .l), (2, .e), (3, .l)] rfl rfl ?_
    refine Run.indexAddr rfl E rfl rfl rfl rfl Try.underlying50 sz34 (by omega) (ix_at' (m' := i) (by omega)) ?_; clear E a; intro a E
    refine Run.loadN (cs := [.int .i64 x.s.kind, .int .i64 x.s.node, .int .i64 x.s.phase, .int .i64 x.s.pos, .int .i64 x.s.start, .int .i64 x.s.depth, .int .i64 x.s.org, .slice x.A x.s.caps.length x.c]) rfl rfl E S rfl rfl rfl ag34 rfl (fun _ s_ => rdAtL hLc s_ _ _ (stams_get hx)) ?_; clear E a; intro a E
    refine Run.alloc rfl rfl E S rfl rfl z34 rfl ?_; clear E a S; intro b1 w a E S B_; clear B_
    refine Run.store (news := [.int .i64 x.s.kind, .int .i64 x.s.node, .int .i64 x.s.phase, .int .i64 x.s.pos, .int .i64 x.s.start, .int .i64 x.s.depth, .int .i64 x.s.org, .slice x.A x.s.caps.length x.c]) (cs' := [_, _, _, _, _, _, _, _]) (hp' := [_, _, _, _, _, _, _]) 0 rfl E S rfl rfl rfl rfl rfl sz34 rfl rfl rfl rfl ?_; clear S; intro w S
    refine Run.nil ?_
    refine then_n ?_
    refine wp_seq ?_
    refine region_plain (n := 4) [(0, .p), (1, .l), (2, .l), (3, .p)] rfl rfl ?_
    refine Run.move rfl E rfl rfl rfl ?_; clear E a; intro a E
    refine Run.loadN (cs := [.int .i64 x.s.kind, .int .i64 x.s.node, .int .i64 x.s.phase, .int .i64 x.s.pos, .int .i64 x.s.start, .int .i64 x.s.depth, .int .i64 x.s.org, .slice x.A x.s.caps.length x.c]) rfl rfl E S rfl rfl rfl ag34 rfl (fun _ s => objAll s 0 rfl) ?_; clear E a; intro a E
    replace S : St _ _ _ [.obj _ _ [_, _, _, _, _, _, _, _, _, _, _, _, _], _, _, _, .obj _ _ [_, _, _, _, _, _, _, _], _, _] := S.sel [1, 2, 3, 4, 0, 5, 6] _ rfl rfl
    refine Run.call (args := [.pointer (some ⟨g, 0, none⟩), .agg #[.int .i64 x.s.kind, .int .i64 x.s.node, .int .i64 x.s.phase, .int .i64 x.s.pos, .int .i64 x.s.start, .int .i64 x.s.depth, .int .i64 x.s.org, .slice x.A x.s.caps.length x.c]]) rfl rfl E rfl rfl Try.func75 nm75 rfl rfl (tadd_walk (f := x.c) (G := G) (ev := ev) (lim := 16777216) (ts := ts) (s := x.s) (St.ownL (A := [.obj g 128 [.int .i64 (G : Int), .int .i64 (ev : Int), .int .i64 16777216, .slice A ((tbytes G ev ts).length) c, .slice B ((tstarts G ev ts).length) d, .int .i64 ((lastS ts).kind), .int .i64 ((lastS ts).node), .int .i64 ((lastS ts).phase), .int .i64 ((lastS ts).pos), .int .i64 ((lastS ts).start), .int .i64 ((lastS ts).depth), .int .i64 ((lastS ts).org), .slice C ((lastS ts).caps.length) e], .row (.slice A ((tbytes G ev ts).length) c) 5 1 ((tbytes G ev ts).length) (u8s (tbytes G ev ts)), .row (.slice B ((tstarts G ev ts).length) d) 3 1 ((tstarts G ev ts).length) (ints (tstarts G ev ts)), .row (.slice C ((lastS ts).caps.length) e) 3 1 ((lastS ts).caps.length) (ints (lastS ts).caps)]) (R := [_, _, _]) S) hok hlim (by decide) (hx1.bel S.belT) (fun h_ b_ o_ e_ m_ => absurd (St.newL (A := [.obj g 128 [.int .i64 (G : Int), .int .i64 (ev : Int), .int .i64 16777216, .slice A ((tbytes G ev ts).length) c, .slice B ((tstarts G ev ts).length) d, .int .i64 ((lastS ts).kind), .int .i64 ((lastS ts).node), .int .i64 ((lastS ts).phase), .int .i64 ((lastS ts).pos), .int .i64 ((lastS ts).start), .int .i64 ((lastS ts).depth), .int .i64 ((lastS ts).org), .slice C ((lastS ts).caps.length) e], .row (.slice A ((tbytes G ev ts).length) c) 5 1 ((tbytes G ev ts).length) (u8s (tbytes G ev ts)), .row (.slice B ((tstarts G ev ts).length) d) 3 1 ((tstarts G ev ts).length) (ints (tstarts G ev ts)), .row (.slice C ((lastS ts).caps.length) e) 3 1 ((lastS ts).caps.length) (ints (lastS ts).caps)]) (R := [_, _, _]) S m_) (Nat.not_le.2 (hx1.lt h_ (by decide) e_))) (hx3)) ?_; rintro e_ w ⟨rfl, Ax2, cx3, Bx4, dx5, Cx6, ex7, S_⟩; refine ⟨_, rfl, (fun h => by cases h), ?_⟩; clear E a; intro a E
    replace S : St _ _ _ [.obj _ _ [_, _, _, _, _, _, _, _, _, _, _, _, _], _, _, _, .obj _ _ [_, _, _, _, _, _, _, _], _, _] := St.call (A := [.obj g 128 [.int .i64 (G : Int), .int .i64 (ev : Int), .int .i64 16777216, .slice A ((tbytes G ev ts).length) c, .slice B ((tstarts G ev ts).length) d, .int .i64 ((lastS ts).kind), .int .i64 ((lastS ts).node), .int .i64 ((lastS ts).phase), .int .i64 ((lastS ts).pos), .int .i64 ((lastS ts).start), .int .i64 ((lastS ts).depth), .int .i64 ((lastS ts).org), .slice C ((lastS ts).caps.length) e], .row (.slice A ((tbytes G ev ts).length) c) 5 1 ((tbytes G ev ts).length) (u8s (tbytes G ev ts)), .row (.slice B ((tstarts G ev ts).length) d) 3 1 ((tstarts G ev ts).length) (ints (tstarts G ev ts)), .row (.slice C ((lastS ts).caps.length) e) 3 1 ((lastS ts).caps.length) (ints (lastS ts).caps)]) (R := [_, _, _]) S S_; clear S_
    rcases addE_zero (G := G) (ev := ev) (lim := 16777216) (ts := ts) (s := x.s) with ⟨hE, hT⟩ | ⟨hE, hT⟩
    · skip
      rw [hT] at S
      have hcl : x.s.caps.length ≤ 202 := by
        by_cases hR : x.s.Right (G : Int)
        · have := right_capl hR; omega
        · unfold addE at hE; rw [if_neg hR] at hE; cases hE
      refine Run.eqi rfl E rfl rfl rfl rfl (decide_eq_true (hE)) ?_; clear E a; intro a E
      refine Run.nil ?_
      refine then_n ?_
      refine cond_T E rfl ?_
      refine region_plain (n := 6) [(0, .p), (1, .l), (2, .e), (3, .e), (4, .l), (5, .p)] rfl rfl ?_
      refine Run.move rfl E rfl rfl rfl ?_; clear E a; intro a E
      refine Run.loadN (cs := [.int .i64 x.s.kind, .int .i64 x.s.node, .int .i64 x.s.phase, .int .i64 x.s.pos, .int .i64 x.s.start, .int .i64 x.s.depth, .int .i64 x.s.org, .slice x.A x.s.caps.length x.c]) rfl rfl E S rfl rfl rfl ag34 rfl (fun _ s => objAll s 4 rfl) ?_; clear E a; intro a E
      refine Run.call (args := [.agg #[.int .i64 x.s.kind, .int .i64 x.s.node, .int .i64 x.s.phase, .int .i64 x.s.pos, .int .i64 x.s.start, .int .i64 x.s.depth, .int .i64 x.s.org, .slice x.A x.s.caps.length x.c]]) rfl rfl E rfl rfl Try.func44 nm44 rfl rfl (own_walk (s := x.s) (hx1.bel S.belT) (by omega)) ?_; rintro e_ w ⟨D8, e9, rfl, S_⟩; refine ⟨_, rfl, (fun _ => S_.belT), ?_⟩; clear E a; intro a E
      replace S : St _ _ _ [_, .obj _ _ [_, _, _, _, _, _, _, _, _, _, _, _, _], _, _, _, .obj _ _ [_, _, _, _, _, _, _, _], _, _] := St.call (A := []) (R := [_, _, _, _, _, _, _]) S S_; clear S_
      refine Run.buildSlice (cs := [.int .i64 x.s.kind, .int .i64 x.s.node, .int .i64 x.s.phase, .int .i64 x.s.pos, .int .i64 x.s.start, .int .i64 x.s.depth, .int .i64 x.s.org, .slice D8 x.s.caps.length e9]) [(0, .agg #[.int .i64 x.s.kind, .int .i64 x.s.node, .int .i64 x.s.phase, .int .i64 x.s.pos, .int .i64 x.s.start, .int .i64 x.s.depth, .int .i64 x.s.org, .slice D8 x.s.caps.length e9])] rfl rfl E S rfl rfl rfl Try.underlying50 (by kernel_rfl) ?_; clear E a S; intro b10 w a E S B_; clear B_
      refine Run.append (news := [.int .i64 x.s.kind, .int .i64 x.s.node, .int .i64 x.s.phase, .int .i64 x.s.pos, .int .i64 x.s.start, .int .i64 x.s.depth, .int .i64 x.s.org, .slice D8 x.s.caps.length e9]) (nm := own.length + 1) 7 rfl E S rfl rfl rfl rfl rfl Try.underlying50 I34 rfl rfl rfl (objNews S 0 rfl) (by simp [Value.oneCell']) (by omega) (by omega) (by omega) ?_; clear E a S; intro A11 c12 w a E S
      replace S : St _ _ _ [.obj _ _ [_, _, _, _, _, _, _, _], _, .obj _ _ [_, _, _, _, _, _, _, _, _, _, _, _, _], _, _, _, .obj _ _ [_, _, _, _, _, _, _, _], _, _] := S
      refine Run.assign rfl E rfl rfl rfl ?_; clear E a; intro a E
      refine Run.nil ?_
      refine blk_n ?_
      refine then_n ?_
      refine region_plain (n := 2) [(0, .p), (1, .p)] rfl rfl ?_
      refine Run.add rfl E rfl rfl rfl rfl (i64_ok (by omega)) ?_; clear E a; intro a E
      refine Run.move rfl E rfl rfl rfl ?_; clear E a; intro a E
      refine Run.nil ?_
      refine then_n ?_
      replace E := E.setv 27 rfl (show Value.int .i64 ((i : Int) + 1) = .int .i64 ((i + 1 : Nat) : Int) from rfl)
      have S : St _ _ _ [_, _, _, _, _, _, _, _, _] := S.sel [0, 6, 1, 8, 7, 2, 3, 4, 5] _ rfl rfl
      have S := S.drop1.drop1
      replace S := S.rowsSnoc rfl
      rw [stams_snoc, irows_snoc] at S
      have e1 : (own ++ [(⟨x.s, D8, e9⟩ : StaM)]).length = own.length + 1 := by simp
      rw [← e1] at S E
      replace S : St _ _ _ [_, _, _, _, _, _] := S.sel [2, 3, 4, 5, 1, 0] _ rfl rfl
      exact ⟨_, (by omega), (i + 1), Ax2, cx3, Bx4, dx5, Cx6, ex7, (ts ++ [x.s]), (own ++ [⟨x.s, D8, e9⟩]), A11, c12, rfl, E.keeps [(6, _), (7, _), (8, _), (10, _), (25, _), (26, _), (27, _)] ⟨rfl, rfl, rfl, rfl, rfl, rfl, rfl, trivial⟩, S, (by omega), (by rw [hts2, hT]), (by rw [List.map_append, hown]; rfl)⟩
    · skip
      rw [hT] at S
      refine Run.eqi rfl E rfl rfl rfl rfl (decide_eq_false (hE)) ?_; clear E a; intro a E
      refine Run.nil ?_
      refine then_n ?_
      refine cond_F E rfl ?_
      refine wp_skip ?_
      refine blk_n ?_
      refine then_n ?_
      refine region_plain (n := 2) [(0, .p), (1, .p)] rfl rfl ?_
      refine Run.add rfl E rfl rfl rfl rfl (i64_ok (by omega)) ?_; clear E a; intro a E
      refine Run.move rfl E rfl rfl rfl ?_; clear E a; intro a E
      refine Run.nil ?_
      refine then_n ?_
      replace E := E.setv 27 rfl (show Value.int .i64 ((i : Int) + 1) = .int .i64 ((i + 1 : Nat) : Int) from rfl)
      have S : St _ _ _ [_, _, _, _, _, _, _] := S.sel [4, 0, 1, 2, 3, 5, 6] _ rfl rfl
      have S := S.drop1
      exact ⟨_, (by omega), (i + 1), Ax2, cx3, Bx4, dx5, Cx6, ex7, ts, own, O, cO, rfl, E.keeps [(6, _), (7, _), (8, _), (10, _), (25, _), (26, _), (27, _)] ⟨rfl, rfl, rfl, rfl, rfl, rfl, rfl, trivial⟩, S, (by omega), (by rw [hts2, hT]), (by exact hown)⟩
  · skip
    refine Run.lss rfl E rfl rfl rfl rfl (decide_eq_false (by omega)) ?_; clear E a; intro a E
    refine Run.nil ?_
    refine then_n ?_
    refine wp_seq ?_
    refine cond_F E rfl ?_
    refine wp_exit ?_
    refine then_x ?_
    refine then_x ?_
    refine blk_x ?_
    refine then_n ?_
    refine wp_seq ?_
    refine region_plain (n := 4) [(0, .p), (1, .p), (2, .p), (3, .p)] rfl rfl ?_
    refine Run.move rfl E rfl rfl rfl ?_; clear E a; intro a E
    refine Run.move rfl E rfl rfl rfl ?_; clear E a; intro a E
    refine Run.assign rfl E rfl rfl rfl ?_; clear E a; intro a E
    refine Run.assign rfl E rfl rfl rfl ?_; clear E a; intro a E
    refine Run.nil ?_
    refine then_n ?_
    refine wp_ret ?_
    have hi2 : i = l.length := by omega
    subst hi2
    rw [List.take_of_length_le (by simp)] at hts
    obtain rfl : ts0 = ts := by rw [hts, h0]
    have S : St _ _ _ [_, _, _, _, _, _] := S.sel [0, 1, 2, 3, 4, 5] _ rfl rfl
    exact ret2 E Try.results37 rfl rfl ⟨g, A, c, B, d, C, e, O, cO, own, hown, rfl, S⟩

end
end Go.Proofs.Ytlcglefbhlhcpaa.K
