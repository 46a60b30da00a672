/- TapePlays walked. -/
import Derived.Test.YtlcglefbhlhcpaaKg
import Derived.Test.YtlcglefbhlhcpaaTaC
import Derived.Test.YtlcglefbhlhcpaaDeL
namespace Go.Proofs.Ytlcglefbhlhcpaa.K
open Go.RowKit
set_option linter.unusedVariables false
set_option maxRecDepth 100000
set_option maxHeartbeats 400000

section
variable {w0 : World} {L A : Option Addr} {c cL : Nat} {l : List StaM} {G ev k : Nat} {lim gr ev0 k0 x : Int} {ts : List Sta} {t s bl : Sta}

theorem of19_walk  : Calls Try.prog 76 [.agg #[.int .i64 s.kind, .int .i64 s.node, .int .i64 s.phase, .int .i64 s.pos, .int .i64 s.start, .int .i64 s.depth, .int .i64 s.org, .slice A s.caps.length c]].toArray w0 (fun r w' => r = .returned (.agg #[.int .i64 s.kind, .int .i64 s.node, .int .i64 s.phase, .int .i64 s.pos, .int .i64 s.start, .int .i64 s.depth, .int .i64 s.org, .slice A s.caps.length c]) ∧ Bel w0 w') := by
  have S := St.nil [] w0
  refine fn_start Try.func76 rfl 21 rfl rfl [(0, _)] ⟨rfl, trivial⟩ ?_; intro a E
  refine wp_seq ?_
  refine region_plain (n := 2) [(0, .e), (1, .e)] rfl rfl ?_
  refine Run.box (cs := [.int .i64 s.kind, .int .i64 s.node, .int .i64 s.phase, .int .i64 s.pos, .int .i64 s.start, .int .i64 s.depth, .int .i64 s.org, .slice A s.caps.length c]) rfl rfl E S rfl rfl rfl rfl ?_; clear E a S; intro b1 w a E S B_; clear B_
  refine Run.alloc rfl rfl E S rfl rfl z93 rfl ?_; clear E a S; intro b2 w a E S B_; clear B_
  refine Run.nil ?_
  refine then_n ?_
  refine wp_seq ?_
  refine region_plain (n := 19) [(0, .p), (1, .l), (2, .p), (3, .l), (4, .p), (5, .l), (6, .p), (7, .l), (8, .p), (9, .l), (10, .p), (11, .l), (12, .p), (13, .l), (14, .p), (15, .p), (16, .l), (17, .p), (18, .l)] rfl rfl ?_
  refine Run.fieldAddr rfl E rfl rfl rfl fo34_0 (rfl) ?_; clear E a; intro a E
  refine Run.load1 rfl rfl E S rfl rfl rfl one3 (fun _ s => s.objCell 1 0 rfl rfl) ?_; clear E a; intro a E
  refine Run.fieldAddr rfl E rfl rfl rfl fo34_1 (rfl) ?_; clear E a; intro a E
  refine Run.load1 rfl rfl E S rfl rfl rfl one3 (fun _ s => s.objCell 1 1 rfl rfl) ?_; clear E a; intro a E
  refine Run.fieldAddr rfl E rfl rfl rfl fo34_2 (rfl) ?_; clear E a; intro a E
  refine Run.load1 rfl rfl E S rfl rfl rfl one3 (fun _ s => s.objCell 1 2 rfl rfl) ?_; clear E a; intro a E
  refine Run.fieldAddr rfl E rfl rfl rfl fo34_3 (rfl) ?_; clear E a; intro a E
  refine Run.load1 rfl rfl E S rfl rfl rfl one3 (fun _ s => s.objCell 1 3 rfl rfl) ?_; clear E a; intro a E
  refine Run.fieldAddr rfl E rfl rfl rfl fo34_4 (rfl) ?_; clear E a; intro a E
  refine Run.load1 rfl rfl E S rfl rfl rfl one3 (fun _ s => s.objCell 1 4 rfl rfl) ?_; clear E a; intro a E
  refine Run.fieldAddr rfl E rfl rfl rfl fo34_5 (rfl) ?_; clear E a; intro a E
  refine Run.load1 rfl rfl E S rfl rfl rfl one3 (fun _ s => s.objCell 1 5 rfl rfl) ?_; clear E a; intro a E
  refine Run.fieldAddr rfl E rfl rfl rfl fo34_6 (rfl) ?_; clear E a; intro a E
  refine Run.load1 rfl rfl E S rfl rfl rfl one3 (fun _ s => s.objCell 1 6 rfl rfl) ?_; clear E a; intro a E
  refine Run.build (cs := #[.int .i64 s.kind, .int .i64 s.node, .int .i64 s.phase, .int .i64 s.pos, .int .i64 s.start, .int .i64 s.depth, .int .i64 s.org]) [(0, .int .i64 s.kind), (1, .int .i64 s.node), (2, .int .i64 s.phase), (3, .int .i64 s.pos), (4, .int .i64 s.start), (5, .int .i64 s.depth), (6, .int .i64 s.org)] rfl E rfl rfl rfl (by kernel_rfl) ?_; clear E a; intro a E
  refine Run.fieldAddr rfl E rfl rfl rfl fo34_7 (rfl) ?_; clear E a; intro a E
  refine Run.load1 rfl rfl E S rfl rfl rfl one32 (fun _ s => s.objCell 1 7 rfl rfl) ?_; clear E a; intro a E
  refine Run.build (cs := #[.int .i64 s.kind, .int .i64 s.node, .int .i64 s.phase, .int .i64 s.pos, .int .i64 s.start, .int .i64 s.depth, .int .i64 s.org, .slice A s.caps.length c]) [(0, .agg #[.int .i64 s.kind, .int .i64 s.node, .int .i64 s.phase, .int .i64 s.pos, .int .i64 s.start, .int .i64 s.depth, .int .i64 s.org]), (1, .slice A s.caps.length c)] rfl E rfl rfl rfl (by kernel_rfl) ?_; clear E a; intro a E
  refine Run.store (news := [.int .i64 s.kind, .int .i64 s.node, .int .i64 s.phase, .int .i64 s.pos, .int .i64 s.start, .int .i64 s.depth, .int .i64 s.org, .slice A s.caps.length c]) (cs' := [_, _, _, _, _, _, _, _]) (hp' := [_, _]) 0 rfl E S rfl rfl rfl rfl rfl sz93 rfl rfl rfl rfl ?_; clear S; intro w S
  refine Run.nil ?_
  refine then_n ?_
  refine wp_ret ?_
  exact retN E (vs := [.agg #[.int .i64 s.kind, .int .i64 s.node, .int .i64 s.phase, .int .i64 s.pos, .int .i64 s.start, .int .i64 s.depth, .int .i64 s.org, .slice A s.caps.length c]]) Try.results76 (.cell (E.slot _ _ rfl) (run_loadVarAgg ag93 rfl (objAll S 0 rfl)) .nil) rfl ⟨rfl, S.belT⟩

theorem empty_walk (hbl : bl = Sta.blank (2 * (G + 1))) (hG : G ≤ 99) : Calls Try.prog 74 [.int .i64 (G : Int)].toArray w0 (fun r w' => ∃ B d, r = .returned (.agg #[.int .i64 bl.kind, .int .i64 bl.node, .int .i64 bl.phase, .int .i64 bl.pos, .int .i64 bl.start, .int .i64 bl.depth, .int .i64 bl.org, .slice B bl.caps.length d]) ∧ St [] w0 w' [.row (.slice B bl.caps.length d) 3 1 bl.caps.length (ints bl.caps)]) := by
  subst hbl
  have S := St.nil [] w0
  refine fn_start Try.func74 rfl 18 rfl rfl [(0, _)] ⟨rfl, trivial⟩ ?_; intro a E
  refine wp_seq ?_
  refine region_plain (n := 1) [(0, .e)] rfl rfl ?_
  refine Run.alloc rfl rfl E S rfl rfl z93 rfl ?_; clear E a S; intro b1 w a E S B_; clear B_
  refine Run.nil ?_
  refine then_n ?_
  refine wp_seq ?_
  refine region_plain (n := 4) [(0, .p), (1, .p), (2, .e), (3, .l)] rfl rfl ?_
  refine Run.build (cs := #[.int .i64 0, .int .i64 0, .int .i64 0, .int .i64 0, .int .i64 0, .int .i64 0, .int .i64 (-1)]) [(0, .int .i64 0), (1, .int .i64 0), (2, .int .i64 0), (3, .int .i64 0), (4, .int .i64 0), (5, .int .i64 0), (6, .int .i64 (-1))] rfl E rfl rfl rfl (by kernel_rfl) ?_; clear E a; intro a E
  refine Run.build (cs := #[.int .i64 0, .int .i64 0, .int .i64 0, .int .i64 0, .int .i64 0, .int .i64 0, .int .i64 (-1), .slice none 0 0]) [(0, .agg #[.int .i64 0, .int .i64 0, .int .i64 0, .int .i64 0, .int .i64 0, .int .i64 0, .int .i64 (-1)])] rfl E rfl rfl rfl (by kernel_rfl) ?_; clear E a; intro a E
  refine Run.alloc rfl rfl E S rfl rfl z93 rfl ?_; clear E a S; intro b2 w a E S B_; clear B_
  refine Run.store (news := [.int .i64 0, .int .i64 0, .int .i64 0, .int .i64 0, .int .i64 0, .int .i64 0, .int .i64 (-1), .slice none 0 0]) (cs' := [_, _, _, _, _, _, _, _]) (hp' := [_, _]) 0 rfl E S rfl rfl rfl rfl rfl sz93 rfl rfl rfl rfl ?_; clear S; intro w S
  refine Run.nil ?_
  refine then_n ?_
  refine wp_seq ?_
  refine wp_seq ?_
  refine region_plain (n := 4) [(0, .p), (1, .p), (2, .p), (3, .p)] rfl rfl ?_
  refine Run.move rfl E rfl rfl rfl ?_; clear E a; intro a E
  refine Run.mul rfl E rfl rfl rfl rfl (i64_ok (by omega)) ?_; clear E a; intro a E
  refine Run.add rfl E rfl rfl rfl rfl (i64_ok (by omega)) ?_; clear E a; intro a E
  refine Run.move rfl E rfl rfl rfl ?_; clear E a; intro a E
  refine Run.nil ?_
  refine then_n ?_
  refine wp_block ?_
  replace S := S.addNil 3 1
  refine wp_loop_ghost (fun n_ a w => ∃ i : Nat, ∃ B : Option Addr, ∃ e : Nat, 2 * (G + 1) - i = n_ ∧ Env 18 [(2, .pointer (some ⟨b1, 0, none⟩)), (3, .pointer (some ⟨b2, 0, none⟩)), (8, .int .i64 ((2 * (G : Int)) + 2)), (9, .int .i64 (i : Int))] a ∧ St _ _ w [.row (.slice B i e) 3 1 i (ints (List.replicate i (-1))), .obj b2 93 [.int .i64 0, .int .i64 0, .int .i64 0, .int .i64 0, .int .i64 0, .int .i64 0, .int .i64 (-1), .slice B i e], .obj b1 93 [.int .i64 0, .int .i64 0, .int .i64 0, .int .i64 0, .int .i64 0, .int .i64 0, .int .i64 0, .slice none 0 0]] ∧ (i ≤ 2 * (G + 1))) _ ⟨0, none, 0, rfl, E.keeps [(2, _), (3, _), (8, _), (9, _)] ⟨rfl, rfl, rfl, rfl, trivial⟩, S, Nat.zero_le _⟩ ?_
  clear E a S
  rintro n_ a w ⟨i, B, e, rfl, E, S, hi⟩
  refine wp_seq ?_
  refine region_plain (n := 1) [(0, .p)] rfl rfl ?_
  by_cases hlt : (i : Int) < 2 * (G : Int) + 2
  · skip
    refine Run.lss rfl E rfl rfl rfl rfl (decide_eq_true (by omega)) ?_; clear E a; intro a E
    refine Run.nil ?_
    refine then_n ?_
    refine wp_seq ?_
    refine cond_T E rfl ?_
    refine wp_skip ?_
    refine then_n ?_
    refine wp_seq ?_
    refine wp_block ?_
    refine region_plain (n := 6) [(0, .p), (1, .l), (2, .e), (3, .l), (4, .p), (5, .l)] rfl rfl ?_
    refine Run.fieldAddr rfl E rfl rfl rfl fo93_1 (rfl) ?_; clear E a; intro a E
    refine Run.load1 rfl rfl E S rfl rfl rfl one32 (fun _ s => s.objCell 1 7 rfl rfl) ?_; clear E a; intro a E
    refine Run.buildSlice (cs := [.int .i64 (-1)]) [(0, .int .i64 (-1))] rfl rfl E S rfl rfl rfl Try.underlying32 (by kernel_rfl) ?_; clear E a S; intro b3 w a E S B_; clear B_
    refine Run.append (news := [.int .i64 (-1)]) (nm := i + 1) 1 rfl E S rfl rfl rfl rfl rfl Try.underlying32 I3 rfl rfl rfl (objNews S 0 rfl) (by simp [Value.oneCell']) (by omega) (by omega) (by omega) ?_; clear E a S; intro A4 c5 w a E S
    replace S : St _ _ _ [.obj _ _ [_], _, .obj _ _ [_, _, _, _, _, _, _, _], .obj _ _ [_, _, _, _, _, _, _, _]] := S
    refine Run.fieldAddr rfl E rfl rfl rfl fo93_1 (rfl) ?_; clear E a; intro a E
    refine Run.store (news := [.slice A4 (i + 1) c5]) (cs' := [_, _, _, _, _, _, _, _]) (hp' := [_, _, _, _]) 2 rfl E S rfl rfl rfl rfl rfl sz32 rfl rfl rfl rfl ?_; clear S; intro w S
    refine Run.nil ?_
    refine blk_n ?_
    refine then_n ?_
    refine region_plain (n := 2) [(0, .p), (1, .p)] rfl rfl ?_
    refine Run.add rfl E rfl rfl rfl rfl (i64_ok (by omega)) ?_; clear E a; intro a E
    refine Run.move rfl E rfl rfl rfl ?_; clear E a; intro a E
    refine Run.nil ?_
    refine then_n ?_
    replace E := E.setv 9 rfl (show Value.int .i64 ((i : Int) + 1) = .int .i64 ((i + 1 : Nat) : Int) from rfl)
    rw [ints_rep] at S
    have S : St _ _ _ [_, _, _, _] := S.sel [0, 1, 2, 3] _ rfl rfl
    have S := S.drop1
    exact ⟨_, (by omega), (i + 1), A4, c5, rfl, E.keeps [(2, _), (3, _), (8, _), (9, _)] ⟨rfl, rfl, rfl, rfl, trivial⟩, S, (by omega)⟩
  · skip
    refine Run.lss rfl E rfl rfl rfl rfl (decide_eq_false (by omega)) ?_; clear E a; intro a E
    refine Run.nil ?_
    refine then_n ?_
    refine wp_seq ?_
    refine cond_F E rfl ?_
    refine wp_exit ?_
    refine then_x ?_
    refine then_x ?_
    refine blk_x ?_
    refine then_n ?_
    refine wp_seq ?_
    refine region_plain (n := 2) [(0, .l), (1, .l)] rfl rfl ?_
    refine Run.loadN (cs := [.int .i64 0, .int .i64 0, .int .i64 0, .int .i64 0, .int .i64 0, .int .i64 0, .int .i64 (-1), .slice B i e]) rfl rfl E S rfl rfl rfl ag93 rfl (fun _ s => objAll s 1 rfl) ?_; clear E a; intro a E
    refine Run.store (news := [.int .i64 0, .int .i64 0, .int .i64 0, .int .i64 0, .int .i64 0, .int .i64 0, .int .i64 (-1), .slice B i e]) (cs' := [_, _, _, _, _, _, _, _]) (hp' := [_, _, _]) 2 rfl E S rfl rfl rfl rfl rfl sz93 rfl rfl rfl rfl ?_; clear S; intro w S
    refine Run.nil ?_
    refine then_n ?_
    refine wp_ret ?_
    obtain rfl : i = 2 * (G + 1) := by omega
    have e1 : (Sta.blank (2 * (G + 1))).caps.length = 2 * (G + 1) := by simp [Sta.blank]
    refine retN E (vs := [.agg #[.int .i64 0, .int .i64 0, .int .i64 0, .int .i64 0, .int .i64 0, .int .i64 0, .int .i64 (-1), .slice B (2 * (G + 1)) e]]) Try.results74 (.cell (E.slot _ _ rfl) (run_loadVarAgg ag93 rfl (objAll S 2 rfl)) .nil) rfl ⟨B, e, ?_, ?_⟩
    · rw [e1]; rfl
    have S : St _ _ _ [_, _, _] := S.sel [1, 2, 0] _ rfl rfl
    have S := S.drop1.drop1
    · rw [e1]; exact S

theorem tplays_bad (hn : ¬ ((0 ≤ gr ∧ gr ≤ 99) ∧ (1 ≤ ev0 ∧ ev0 ≤ 1024) ∧ (0 ≤ lim ∧ lim ≤ 16777216))) : Calls Try.prog 18 [.agg #[.int .i64 gr, .int .i64 ev0, .int .i64 lim], .slice L l.length cL].toArray w0 (fun r w' => r = .returned (.bool true) ∧ Bel w0 w') := by
  have S := St.nil [] w0
  refine fn_start Try.func18 rfl 127 rfl rfl [(0, _), (1, _)] ⟨rfl, rfl, trivial⟩ ?_; intro a E
  refine wp_seq ?_
  refine region_plain (n := 2) [(0, .e), (1, .p)] rfl rfl ?_
  refine Run.box (cs := [.int .i64 gr, .int .i64 ev0, .int .i64 lim]) rfl rfl E S rfl rfl rfl rfl ?_; clear E a S; intro b1 w a E S B_; clear B_
  refine Run.assign rfl E rfl rfl rfl ?_; clear E a; intro a E
  refine Run.nil ?_
  refine then_n ?_
  refine wp_seq ?_
  refine wp_seq ?_
  refine region_plain (n := 2) [(0, .e), (1, .p)] rfl rfl ?_
  refine Run.call (args := []) rfl rfl E rfl rfl Try.func68 nm68 rfl rfl (anchor19) ?_; rintro e_ w ⟨rfl, B_⟩; refine ⟨_, rfl, fun _ => B_, ?_⟩; clear E a; replace S := S.bel B_; intro a E
  clear B_
  refine Run.not rfl E rfl rfl rfl rfl ?_; clear E a; intro a E
  refine Run.nil ?_
  refine then_n ?_
  refine cond_F E rfl ?_
  refine wp_skip ?_
  refine then_n ?_
  refine wp_seq ?_
  refine region_plain (n := 12) [(0, .p), (1, .l), (2, .p), (3, .l), (4, .p), (5, .l), (6, .e), (7, .p), (8, .p), (9, .p), (10, .p), (11, .p)] rfl rfl ?_
  refine Run.fieldAddr rfl E rfl rfl rfl fo102_0 (rfl) ?_; clear E a; intro a E
  refine Run.load1 rfl rfl E S rfl rfl rfl one3 (fun _ s => s.objCell 0 0 rfl rfl) ?_; clear E a; intro a E
  refine Run.fieldAddr rfl E rfl rfl rfl fo102_1 (rfl) ?_; clear E a; intro a E
  refine Run.load1 rfl rfl E S rfl rfl rfl one3 (fun _ s => s.objCell 0 1 rfl rfl) ?_; clear E a; intro a E
  refine Run.fieldAddr rfl E rfl rfl rfl fo102_2 (rfl) ?_; clear E a; intro a E
  refine Run.load1 rfl rfl E S rfl rfl rfl one3 (fun _ s => s.objCell 0 2 rfl rfl) ?_; clear E a; intro a E
  refine Run.call (args := [.int .i64 gr, .int .i64 ev0, .int .i64 lim]) rfl rfl E rfl rfl Try.func73 nm73 rfl rfl (tape_bad hn) ?_; rintro e_ w ⟨rfl, B_⟩; refine ⟨_, rfl, fun _ => B_, ?_⟩; clear E a; replace S := S.bel B_; intro a E
  clear B_
  refine Run.move rfl E rfl rfl rfl ?_; clear E a; intro a E
  refine Run.extract rfl E rfl rfl rfl rfl ?_; clear E a; intro a E
  refine Run.extract rfl E rfl rfl rfl rfl ?_; clear E a; intro a E
  refine Run.assign rfl E rfl rfl rfl ?_; clear E a; intro a E
  refine Run.assign rfl E rfl rfl rfl ?_; clear E a; intro a E
  refine Run.nil ?_
  refine then_n ?_
  refine wp_seq ?_
  refine wp_seq ?_
  refine region_plain (n := 3) [(0, .l), (1, .e), (2, .p)] rfl rfl ?_
  refine Run.loadN (cs := [.int .i64 gr, .int .i64 ev0, .int .i64 lim]) rfl rfl E S rfl rfl rfl ag102 rfl (fun _ s => objAll s 0 rfl) ?_; clear E a; intro a E
  refine Run.call (args := [.agg #[.int .i64 gr, .int .i64 ev0, .int .i64 lim]]) rfl rfl E rfl rfl Try.func69 nm69 rfl rfl (right19_bad hn) ?_; rintro e_ w ⟨rfl, B_⟩; refine ⟨_, rfl, fun _ => B_, ?_⟩; clear E a; replace S := S.bel B_; intro a E
  clear B_
  refine Run.not rfl E rfl rfl rfl rfl ?_; clear E a; intro a E
  refine Run.nil ?_
  refine then_n ?_
  refine cond_T E rfl ?_
  refine wp_seq ?_
  refine region_plain (n := 7) [(0, .p), (1, .p), (2, .p), (3, .p), (4, .p), (5, .p), (6, .p)] rfl rfl ?_
  refine Run.move rfl E rfl rfl rfl ?_; clear E a; intro a E
  refine Run.eqi rfl E rfl rfl rfl rfl (b := true) (by decide) ?_; clear E a; intro a E
  refine Run.move rfl E rfl rfl rfl ?_; clear E a; intro a E
  refine Run.move rfl E rfl rfl rfl ?_; clear E a; intro a E
  refine Run.bin (v := .bool true) rfl E rfl rfl rfl rfl (fun _ => by kernel_rfl) ?_; clear E a; intro a E
  refine Run.pickT rfl E rfl rfl rfl rfl ?_; clear E a; intro a E
  refine Run.assign rfl E rfl rfl rfl ?_; clear E a; intro a E
  refine Run.nil ?_
  refine then_n ?_
  refine wp_ret ?_
  refine then_r ?_
  exact ret1 E Try.results18 rfl ⟨rfl, S.belT⟩

theorem tplays_long (hG : G ≤ 99) (he0 : 1 ≤ ev) (he1 : ev ≤ 1024) (hl0 : 0 ≤ lim) (hl1 : lim ≤ 16777216) (hll : (100 : Int) < (l.length : Int)) : Calls Try.prog 18 [.agg #[.int .i64 (G : Int), .int .i64 (ev : Int), .int .i64 lim], .slice L l.length cL].toArray w0 (fun r w' => r = .returned (.bool true) ∧ Bel w0 w') := by
  have S := St.nil [] w0
  refine fn_start Try.func18 rfl 127 rfl rfl [(0, _), (1, _)] ⟨rfl, rfl, trivial⟩ ?_; intro a E
  refine wp_seq ?_
  refine region_plain (n := 2) [(0, .e), (1, .p)] rfl rfl ?_
  refine Run.box (cs := [.int .i64 (G : Int), .int .i64 (ev : Int), .int .i64 lim]) rfl rfl E S rfl rfl rfl rfl ?_; clear E a S; intro b1 w a E S B_; clear B_
  refine Run.assign rfl E rfl rfl rfl ?_; clear E a; intro a E
  refine Run.nil ?_
  refine then_n ?_
  refine wp_seq ?_
  refine wp_seq ?_
  refine region_plain (n := 2) [(0, .e), (1, .p)] rfl rfl ?_
  refine Run.call (args := []) rfl rfl E rfl rfl Try.func68 nm68 rfl rfl (anchor19) ?_; rintro e_ w ⟨rfl, B_⟩; refine ⟨_, rfl, fun _ => B_, ?_⟩; clear E a; replace S := S.bel B_; intro a E
  clear B_
  refine Run.not rfl E rfl rfl rfl rfl ?_; clear E a; intro a E
  refine Run.nil ?_
  refine then_n ?_
  refine cond_F E rfl ?_
  refine wp_skip ?_
  refine then_n ?_
  refine wp_seq ?_
  refine region_plain (n := 12) [(0, .p), (1, .l), (2, .p), (3, .l), (4, .p), (5, .l), (6, .e), (7, .p), (8, .p), (9, .p), (10, .p), (11, .p)] rfl rfl ?_
  refine Run.fieldAddr rfl E rfl rfl rfl fo102_0 (rfl) ?_; clear E a; intro a E
  refine Run.load1 rfl rfl E S rfl rfl rfl one3 (fun _ s => s.objCell 0 0 rfl rfl) ?_; clear E a; intro a E
  refine Run.fieldAddr rfl E rfl rfl rfl fo102_1 (rfl) ?_; clear E a; intro a E
  refine Run.load1 rfl rfl E S rfl rfl rfl one3 (fun _ s => s.objCell 0 1 rfl rfl) ?_; clear E a; intro a E
  refine Run.fieldAddr rfl E rfl rfl rfl fo102_2 (rfl) ?_; clear E a; intro a E
  refine Run.load1 rfl rfl E S rfl rfl rfl one3 (fun _ s => s.objCell 0 2 rfl rfl) ?_; clear E a; intro a E
  refine Run.call (args := [.int .i64 (G : Int), .int .i64 (ev : Int), .int .i64 lim]) rfl rfl E rfl rfl Try.func73 nm73 rfl rfl (tape_new (G := G) (ev := ev) (lim := lim) hG he0 he1 hl0 hl1) ?_; rintro e_ w ⟨g, rfl, S_⟩; refine ⟨_, rfl, (fun _ => S_.belT), ?_⟩; clear E a; intro a E
  replace S : St _ _ _ [.obj _ _ [_, _, _, _, _, _, _, _, _, _, _, _, _], _, _, _, .obj _ _ [_, _, _]] := St.call (A := []) (R := [_]) S S_; clear S_
  refine Run.move rfl E rfl rfl rfl ?_; clear E a; intro a E
  refine Run.extract rfl E rfl rfl rfl rfl ?_; clear E a; intro a E
  refine Run.extract rfl E rfl rfl rfl rfl ?_; clear E a; intro a E
  refine Run.assign rfl E rfl rfl rfl ?_; clear E a; intro a E
  refine Run.assign rfl E rfl rfl rfl ?_; clear E a; intro a E
  refine Run.nil ?_
  refine then_n ?_
  refine wp_seq ?_
  refine wp_seq ?_
  refine region_plain (n := 3) [(0, .l), (1, .e), (2, .p)] rfl rfl ?_
  refine Run.loadN (cs := [.int .i64 (G : Int), .int .i64 (ev : Int), .int .i64 lim]) rfl rfl E S rfl rfl rfl ag102 rfl (fun _ s => objAll s 4 rfl) ?_; clear E a; intro a E
  refine Run.call (args := [.agg #[.int .i64 (G : Int), .int .i64 (ev : Int), .int .i64 lim]]) rfl rfl E rfl rfl Try.func69 nm69 rfl rfl (right19_ok hG he0 he1 hl0 hl1) ?_; rintro e_ w ⟨rfl, B_⟩; refine ⟨_, rfl, fun _ => B_, ?_⟩; clear E a; replace S := S.bel B_; intro a E
  clear B_
  refine Run.not rfl E rfl rfl rfl rfl ?_; clear E a; intro a E
  refine Run.nil ?_
  refine then_n ?_
  refine cond_F E rfl ?_
  refine wp_skip ?_
  refine then_n ?_
  refine wp_seq ?_
  refine wp_seq ?_
  refine region_drawS (n := 20) [(0, .p), (1, .p), (2, .p), (3, .p), (4, .p), (5, .p), (6, .p), (7, .p), (9, .p), (10, .t), (8, .e), (11, .p), (12, .p), (13, .p), (14, .p), (16, .p), (17, .t), (15, .e), (18, .p), (19, .p)] [0, 1, 3, 7, 15, 31, 63, 127, 255, 127, 639, 2047, 4095, 8191, 16383, 32767, 16383, 81919, 262143, 524287] S mixed rfl rfl (by kernel_rfl) (fun _ _ _ _ _ h => h) ?_; clear S; intro w S B_; clear B_
  refine Run.move rfl E rfl rfl rfl ?_; clear E a; intro a E
  refine Run.nei rfl E rfl rfl rfl rfl (b := false) (by decide) ?_; clear E a; intro a E
  refine Run.move rfl E rfl rfl rfl ?_; clear E a; intro a E
  refine Run.move rfl E rfl rfl rfl ?_; clear E a; intro a E
  refine Run.bin (v := .bool false) rfl E rfl rfl rfl rfl (fun _ => by kernel_rfl) ?_; clear E a; intro a E
  refine Run.pickF rfl E rfl rfl rfl rfl ?_; clear E a; intro a E
  refine Run.move rfl E rfl rfl rfl ?_; clear E a; intro a E
  refine Run.move rfl E rfl rfl rfl ?_; clear E a; intro a E
  refine Run.fieldAddr rfl E rfl rfl rfl fo102_0 (rfl) ?_; clear E a; intro a E
  refine Run.load1 rfl rfl E S rfl rfl rfl one3 (fun _ s => s.objCell 4 0 rfl rfl) ?_; clear E a; intro a E
  refine Run.call (args := [.pointer (some ⟨g, 0, none⟩)]) rfl rfl E rfl rfl Try.func27 nm27 rfl rfl (tape_groups (St.holdsL (A := [.obj g 128 [.int .i64 (G : Int), .int .i64 (ev : Int), .int .i64 lim, .slice none (([] : List Nat).length) 0, .slice none (([] : List Int).length) 0, .int .i64 Sta.zero.kind, .int .i64 Sta.zero.node, .int .i64 Sta.zero.phase, .int .i64 Sta.zero.pos, .int .i64 Sta.zero.start, .int .i64 Sta.zero.depth, .int .i64 Sta.zero.org, .slice none Sta.zero.caps.length 0], .row (.slice none (([] : List Nat).length) 0) 5 1 (([] : List Nat).length) (u8s ([] : List Nat)), .row (.slice none (([] : List Int).length) 0) 3 1 (([] : List Int).length) (ints ([] : List Int)), .row (.slice none Sta.zero.caps.length 0) 3 1 Sta.zero.caps.length (ints Sta.zero.caps)]) (R := [_]) (S.sel [0, 1, 2, 3, 4] ([.obj g 128 [.int .i64 (G : Int), .int .i64 (ev : Int), .int .i64 lim, .slice none (([] : List Nat).length) 0, .slice none (([] : List Int).length) 0, .int .i64 Sta.zero.kind, .int .i64 Sta.zero.node, .int .i64 Sta.zero.phase, .int .i64 Sta.zero.pos, .int .i64 Sta.zero.start, .int .i64 Sta.zero.depth, .int .i64 Sta.zero.org, .slice none Sta.zero.caps.length 0], .row (.slice none (([] : List Nat).length) 0) 5 1 (([] : List Nat).length) (u8s ([] : List Nat)), .row (.slice none (([] : List Int).length) 0) 3 1 (([] : List Int).length) (ints ([] : List Int)), .row (.slice none Sta.zero.caps.length 0) 3 1 Sta.zero.caps.length (ints Sta.zero.caps)] ++ [_]) rfl rfl))) ?_; rintro e_ w ⟨rfl, B_⟩; refine ⟨_, rfl, fun _ => B_, ?_⟩; clear E a; replace S := S.bel B_; intro a E
  clear B_
  refine Run.nei rfl E rfl rfl rfl rfl (decide_eq_false (fun h => h rfl)) ?_; clear E a; intro a E
  refine Run.pickF rfl E rfl rfl rfl rfl ?_; clear E a; intro a E
  refine Run.move rfl E rfl rfl rfl ?_; clear E a; intro a E
  refine Run.move rfl E rfl rfl rfl ?_; clear E a; intro a E
  refine Run.fieldAddr rfl E rfl rfl rfl fo102_1 (rfl) ?_; clear E a; intro a E
  refine Run.load1 rfl rfl E S rfl rfl rfl one3 (fun _ s => s.objCell 4 1 rfl rfl) ?_; clear E a; intro a E
  refine Run.call (args := [.pointer (some ⟨g, 0, none⟩)]) rfl rfl E rfl rfl Try.func39 nm39 rfl rfl (tape_every (St.holdsL (A := [.obj g 128 [.int .i64 (G : Int), .int .i64 (ev : Int), .int .i64 lim, .slice none (([] : List Nat).length) 0, .slice none (([] : List Int).length) 0, .int .i64 Sta.zero.kind, .int .i64 Sta.zero.node, .int .i64 Sta.zero.phase, .int .i64 Sta.zero.pos, .int .i64 Sta.zero.start, .int .i64 Sta.zero.depth, .int .i64 Sta.zero.org, .slice none Sta.zero.caps.length 0], .row (.slice none (([] : List Nat).length) 0) 5 1 (([] : List Nat).length) (u8s ([] : List Nat)), .row (.slice none (([] : List Int).length) 0) 3 1 (([] : List Int).length) (ints ([] : List Int)), .row (.slice none Sta.zero.caps.length 0) 3 1 Sta.zero.caps.length (ints Sta.zero.caps)]) (R := [_]) (S.sel [0, 1, 2, 3, 4] ([.obj g 128 [.int .i64 (G : Int), .int .i64 (ev : Int), .int .i64 lim, .slice none (([] : List Nat).length) 0, .slice none (([] : List Int).length) 0, .int .i64 Sta.zero.kind, .int .i64 Sta.zero.node, .int .i64 Sta.zero.phase, .int .i64 Sta.zero.pos, .int .i64 Sta.zero.start, .int .i64 Sta.zero.depth, .int .i64 Sta.zero.org, .slice none Sta.zero.caps.length 0], .row (.slice none (([] : List Nat).length) 0) 5 1 (([] : List Nat).length) (u8s ([] : List Nat)), .row (.slice none (([] : List Int).length) 0) 3 1 (([] : List Int).length) (ints ([] : List Int)), .row (.slice none Sta.zero.caps.length 0) 3 1 Sta.zero.caps.length (ints Sta.zero.caps)] ++ [_]) rfl rfl))) ?_; rintro e_ w ⟨rfl, B_⟩; refine ⟨_, rfl, fun _ => B_, ?_⟩; clear E a; replace S := S.bel B_; intro a E
  clear B_
  refine Run.nei rfl E rfl rfl rfl rfl (decide_eq_false (fun h => h rfl)) ?_; clear E a; intro a E
  refine Run.pickF rfl E rfl rfl rfl rfl ?_; clear E a; intro a E
  refine Run.nil ?_
  refine then_n ?_
  refine cond_F E rfl ?_
  refine wp_skip ?_
  refine then_n ?_
  refine wp_seq ?_
  refine wp_seq ?_
  refine region_plain (n := 3) [(0, .p), (1, .p), (2, .p)] rfl rfl ?_
  refine Run.move rfl E rfl rfl rfl ?_; clear E a; intro a E
  refine Run.len rfl E rfl rfl rfl Try.underlying50 ?_; clear E a; intro a E
  refine Run.gtr rfl E rfl rfl rfl rfl (decide_eq_true (by omega)) ?_; clear E a; intro a E
  refine Run.nil ?_
  refine then_n ?_
  refine cond_T E rfl ?_
  refine wp_seq ?_
  refine region_plain (n := 1) [(0, .p)] rfl rfl ?_
  refine Run.assign rfl E rfl rfl rfl ?_; clear E a; intro a E
  refine Run.nil ?_
  refine then_n ?_
  refine wp_ret ?_
  refine then_r ?_
  exact ret1 E Try.results18 rfl ⟨rfl, S.belT⟩

theorem wa_step {G ev : Nat} (ts : List Sta) (s : Sta) : (ts ++ [s]).length % ev = 0 ∨ s = prevS G ev (ts ++ [s]) (ts ++ [s]).length := by
  by_cases hm2 : (ts ++ [s]).length % ev = 0
  · exact .inl hm2
  · refine .inr ?_
    rw [List.length_append, List.length_singleton] at hm2 ⊢
    exact (prev_get hm2 (by simp)).symm

set_option maxHeartbeats 2000000 in
theorem tplays_ok (hG : G ≤ 99) (he0 : 1 ≤ ev) (he1 : ev ≤ 1024) (hl0 : 0 ≤ lim) (hl1 : lim ≤ 16777216) (hL : Rd w0 L l.length 8 (stams l)) (hL2 : ∀ x ∈ l, x.ok w0) (hll : l.length ≤ 100) : Calls Try.prog 18 [.agg #[.int .i64 (G : Int), .int .i64 (ev : Int), .int .i64 lim], .slice L l.length cL].toArray w0 (fun r w' => r = .returned (.bool true) ∧ Bel w0 w') := by
  have S := St.nil [] w0
  refine fn_start Try.func18 rfl 127 rfl rfl [(0, _), (1, _)] ⟨rfl, rfl, trivial⟩ ?_; intro a E
  refine wp_seq ?_
  refine region_plain (n := 2) [(0, .e), (1, .p)] rfl rfl ?_
  refine Run.box (cs := [.int .i64 (G : Int), .int .i64 (ev : Int), .int .i64 lim]) rfl rfl E S rfl rfl rfl rfl ?_; clear E a S; intro b1 w a E S B_; clear B_
  refine Run.assign rfl E rfl rfl rfl ?_; clear E a; intro a E
  refine Run.nil ?_
  refine then_n ?_
  refine wp_seq ?_
  refine wp_seq ?_
  refine region_plain (n := 2) [(0, .e), (1, .p)] rfl rfl ?_
  refine Run.call (args := []) rfl rfl E rfl rfl Try.func68 nm68 rfl rfl (anchor19) ?_; rintro e_ w ⟨rfl, B_⟩; refine ⟨_, rfl, fun _ => B_, ?_⟩; clear E a; replace S := S.bel B_; intro a E
  clear B_
  refine Run.not rfl E rfl rfl rfl rfl ?_; clear E a; intro a E
  refine Run.nil ?_
  refine then_n ?_
  refine cond_F E rfl ?_
  refine wp_skip ?_
  refine then_n ?_
  refine wp_seq ?_
  refine region_plain (n := 12) [(0, .p), (1, .l), (2, .p), (3, .l), (4, .p), (5, .l), (6, .e), (7, .p), (8, .p), (9, .p), (10, .p), (11, .p)] rfl rfl ?_
  refine Run.fieldAddr rfl E rfl rfl rfl fo102_0 (rfl) ?_; clear E a; intro a E
  refine Run.load1 rfl rfl E S rfl rfl rfl one3 (fun _ s => s.objCell 0 0 rfl rfl) ?_; clear E a; intro a E
  refine Run.fieldAddr rfl E rfl rfl rfl fo102_1 (rfl) ?_; clear E a; intro a E
  refine Run.load1 rfl rfl E S rfl rfl rfl one3 (fun _ s => s.objCell 0 1 rfl rfl) ?_; clear E a; intro a E
  refine Run.fieldAddr rfl E rfl rfl rfl fo102_2 (rfl) ?_; clear E a; intro a E
  refine Run.load1 rfl rfl E S rfl rfl rfl one3 (fun _ s => s.objCell 0 2 rfl rfl) ?_; clear E a; intro a E
  refine Run.call (args := [.int .i64 (G : Int), .int .i64 (ev : Int), .int .i64 lim]) rfl rfl E rfl rfl Try.func73 nm73 rfl rfl (tape_new (G := G) (ev := ev) (lim := lim) hG he0 he1 hl0 hl1) ?_; rintro e_ w ⟨g, rfl, S_⟩; refine ⟨_, rfl, (fun _ => S_.belT), ?_⟩; clear E a; intro a E
  replace S : St _ _ _ [.obj _ _ [_, _, _, _, _, _, _, _, _, _, _, _, _], _, _, _, .obj _ _ [_, _, _]] := St.call (A := []) (R := [_]) S S_; clear S_
  refine Run.move rfl E rfl rfl rfl ?_; clear E a; intro a E
  refine Run.extract rfl E rfl rfl rfl rfl ?_; clear E a; intro a E
  refine Run.extract rfl E rfl rfl rfl rfl ?_; clear E a; intro a E
  refine Run.assign rfl E rfl rfl rfl ?_; clear E a; intro a E
  refine Run.assign rfl E rfl rfl rfl ?_; clear E a; intro a E
  refine Run.nil ?_
  refine then_n ?_
  refine wp_seq ?_
  refine wp_seq ?_
  refine region_plain (n := 3) [(0, .l), (1, .e), (2, .p)] rfl rfl ?_
  refine Run.loadN (cs := [.int .i64 (G : Int), .int .i64 (ev : Int), .int .i64 lim]) rfl rfl E S rfl rfl rfl ag102 rfl (fun _ s => objAll s 4 rfl) ?_; clear E a; intro a E
  refine Run.call (args := [.agg #[.int .i64 (G : Int), .int .i64 (ev : Int), .int .i64 lim]]) rfl rfl E rfl rfl Try.func69 nm69 rfl rfl (right19_ok hG he0 he1 hl0 hl1) ?_; rintro e_ w ⟨rfl, B_⟩; refine ⟨_, rfl, fun _ => B_, ?_⟩; clear E a; replace S := S.bel B_; intro a E
  clear B_
  refine Run.not rfl E rfl rfl rfl rfl ?_; clear E a; intro a E
  refine Run.nil ?_
  refine then_n ?_
  refine cond_F E rfl ?_
  refine wp_skip ?_
  refine then_n ?_
  refine wp_seq ?_
  refine wp_seq ?_
  refine region_drawS (n := 20) [(0, .p), (1, .p), (2, .p), (3, .p), (4, .p), (5, .p), (6, .p), (7, .p), (9, .p), (10, .t), (8, .e), (11, .p), (12, .p), (13, .p), (14, .p), (16, .p), (17, .t), (15, .e), (18, .p), (19, .p)] [0, 1, 3, 7, 15, 31, 63, 127, 255, 127, 639, 2047, 4095, 8191, 16383, 32767, 16383, 81919, 262143, 524287] S mixed rfl rfl (by kernel_rfl) (fun _ _ _ _ _ h => h) ?_; clear S; intro w S B_; clear B_
  refine Run.move rfl E rfl rfl rfl ?_; clear E a; intro a E
  refine Run.nei rfl E rfl rfl rfl rfl (b := false) (by decide) ?_; clear E a; intro a E
  refine Run.move rfl E rfl rfl rfl ?_; clear E a; intro a E
  refine Run.move rfl E rfl rfl rfl ?_; clear E a; intro a E
  refine Run.bin (v := .bool false) rfl E rfl rfl rfl rfl (fun _ => by kernel_rfl) ?_; clear E a; intro a E
  refine Run.pickF rfl E rfl rfl rfl rfl ?_; clear E a; intro a E
  refine Run.move rfl E rfl rfl rfl ?_; clear E a; intro a E
  refine Run.move rfl E rfl rfl rfl ?_; clear E a; intro a E
  refine Run.fieldAddr rfl E rfl rfl rfl fo102_0 (rfl) ?_; clear E a; intro a E
  refine Run.load1 rfl rfl E S rfl rfl rfl one3 (fun _ s => s.objCell 4 0 rfl rfl) ?_; clear E a; intro a E
  refine Run.call (args := [.pointer (some ⟨g, 0, none⟩)]) rfl rfl E rfl rfl Try.func27 nm27 rfl rfl (tape_groups (St.holdsL (A := [.obj g 128 [.int .i64 (G : Int), .int .i64 (ev : Int), .int .i64 lim, .slice none (([] : List Nat).length) 0, .slice none (([] : List Int).length) 0, .int .i64 Sta.zero.kind, .int .i64 Sta.zero.node, .int .i64 Sta.zero.phase, .int .i64 Sta.zero.pos, .int .i64 Sta.zero.start, .int .i64 Sta.zero.depth, .int .i64 Sta.zero.org, .slice none Sta.zero.caps.length 0], .row (.slice none (([] : List Nat).length) 0) 5 1 (([] : List Nat).length) (u8s ([] : List Nat)), .row (.slice none (([] : List Int).length) 0) 3 1 (([] : List Int).length) (ints ([] : List Int)), .row (.slice none Sta.zero.caps.length 0) 3 1 Sta.zero.caps.length (ints Sta.zero.caps)]) (R := [_]) (S.sel [0, 1, 2, 3, 4] ([.obj g 128 [.int .i64 (G : Int), .int .i64 (ev : Int), .int .i64 lim, .slice none (([] : List Nat).length) 0, .slice none (([] : List Int).length) 0, .int .i64 Sta.zero.kind, .int .i64 Sta.zero.node, .int .i64 Sta.zero.phase, .int .i64 Sta.zero.pos, .int .i64 Sta.zero.start, .int .i64 Sta.zero.depth, .int .i64 Sta.zero.org, .slice none Sta.zero.caps.length 0], .row (.slice none (([] : List Nat).length) 0) 5 1 (([] : List Nat).length) (u8s ([] : List Nat)), .row (.slice none (([] : List Int).length) 0) 3 1 (([] : List Int).length) (ints ([] : List Int)), .row (.slice none Sta.zero.caps.length 0) 3 1 Sta.zero.caps.length (ints Sta.zero.caps)] ++ [_]) rfl rfl))) ?_; rintro e_ w ⟨rfl, B_⟩; refine ⟨_, rfl, fun _ => B_, ?_⟩; clear E a; replace S := S.bel B_; intro a E
  clear B_
  refine Run.nei rfl E rfl rfl rfl rfl (decide_eq_false (fun h => h rfl)) ?_; clear E a; intro a E
  refine Run.pickF rfl E rfl rfl rfl rfl ?_; clear E a; intro a E
  refine Run.move rfl E rfl rfl rfl ?_; clear E a; intro a E
  refine Run.move rfl E rfl rfl rfl ?_; clear E a; intro a E
  refine Run.fieldAddr rfl E rfl rfl rfl fo102_1 (rfl) ?_; clear E a; intro a E
  refine Run.load1 rfl rfl E S rfl rfl rfl one3 (fun _ s => s.objCell 4 1 rfl rfl) ?_; clear E a; intro a E
  refine Run.call (args := [.pointer (some ⟨g, 0, none⟩)]) rfl rfl E rfl rfl Try.func39 nm39 rfl rfl (tape_every (St.holdsL (A := [.obj g 128 [.int .i64 (G : Int), .int .i64 (ev : Int), .int .i64 lim, .slice none (([] : List Nat).length) 0, .slice none (([] : List Int).length) 0, .int .i64 Sta.zero.kind, .int .i64 Sta.zero.node, .int .i64 Sta.zero.phase, .int .i64 Sta.zero.pos, .int .i64 Sta.zero.start, .int .i64 Sta.zero.depth, .int .i64 Sta.zero.org, .slice none Sta.zero.caps.length 0], .row (.slice none (([] : List Nat).length) 0) 5 1 (([] : List Nat).length) (u8s ([] : List Nat)), .row (.slice none (([] : List Int).length) 0) 3 1 (([] : List Int).length) (ints ([] : List Int)), .row (.slice none Sta.zero.caps.length 0) 3 1 Sta.zero.caps.length (ints Sta.zero.caps)]) (R := [_]) (S.sel [0, 1, 2, 3, 4] ([.obj g 128 [.int .i64 (G : Int), .int .i64 (ev : Int), .int .i64 lim, .slice none (([] : List Nat).length) 0, .slice none (([] : List Int).length) 0, .int .i64 Sta.zero.kind, .int .i64 Sta.zero.node, .int .i64 Sta.zero.phase, .int .i64 Sta.zero.pos, .int .i64 Sta.zero.start, .int .i64 Sta.zero.depth, .int .i64 Sta.zero.org, .slice none Sta.zero.caps.length 0], .row (.slice none (([] : List Nat).length) 0) 5 1 (([] : List Nat).length) (u8s ([] : List Nat)), .row (.slice none (([] : List Int).length) 0) 3 1 (([] : List Int).length) (ints ([] : List Int)), .row (.slice none Sta.zero.caps.length 0) 3 1 Sta.zero.caps.length (ints Sta.zero.caps)] ++ [_]) rfl rfl))) ?_; rintro e_ w ⟨rfl, B_⟩; refine ⟨_, rfl, fun _ => B_, ?_⟩; clear E a; replace S := S.bel B_; intro a E
  clear B_
  refine Run.nei rfl E rfl rfl rfl rfl (decide_eq_false (fun h => h rfl)) ?_; clear E a; intro a E
  refine Run.pickF rfl E rfl rfl rfl rfl ?_; clear E a; intro a E
  refine Run.nil ?_
  refine then_n ?_
  refine cond_F E rfl ?_
  refine wp_skip ?_
  refine then_n ?_
  refine wp_seq ?_
  refine wp_seq ?_
  refine region_plain (n := 3) [(0, .p), (1, .p), (2, .p)] rfl rfl ?_
  refine Run.move rfl E rfl rfl rfl ?_; clear E a; intro a E
  refine Run.len rfl E rfl rfl rfl Try.underlying50 ?_; clear E a; intro a E
  refine Run.gtr rfl E rfl rfl rfl rfl (decide_eq_false (by omega)) ?_; clear E a; intro a E
  refine Run.nil ?_
  refine then_n ?_
  refine cond_F E rfl ?_
  refine wp_skip ?_
  refine then_n ?_
  refine wp_seq ?_
  refine region_plain (n := 1) [(0, .p)] rfl rfl ?_
  refine Run.assign rfl E rfl rfl rfl ?_; clear E a; intro a E
  refine Run.nil ?_
  refine then_n ?_
  refine wp_seq ?_
  refine region_plain (n := 1) [(0, .p)] rfl rfl ?_
  refine Run.assign rfl E rfl rfl rfl ?_; clear E a; intro a E
  refine Run.nil ?_
  refine then_n ?_
  refine wp_seq ?_
  refine region_plain (n := 5) [(0, .p), (1, .l), (2, .e), (3, .e), (4, .l)] rfl rfl ?_
  refine Run.fieldAddr rfl E rfl rfl rfl fo102_0 (rfl) ?_; clear E a; intro a E
  refine Run.load1 rfl rfl E S rfl rfl rfl one3 (fun _ s => s.objCell 4 0 rfl rfl) ?_; clear E a; intro a E
  refine Run.call (args := [.int .i64 (G : Int)]) rfl rfl E rfl rfl Try.func74 nm74 rfl rfl (empty_walk (bl := Sta.blank (2 * (G + 1))) rfl hG) ?_; rintro e_ w ⟨W2, q3, rfl, S_⟩; refine ⟨_, rfl, (fun _ => S_.belT), ?_⟩; clear E a; intro a E
  replace S : St _ _ _ [_, .obj _ _ [_, _, _, _, _, _, _, _, _, _, _, _, _], _, _, _, .obj _ _ [_, _, _]] := St.call (A := []) (R := [_, _, _, _, _]) S S_; clear S_
  refine Run.alloc rfl rfl E S rfl rfl z93 rfl ?_; clear E a S; intro b4 w a E S B_; clear B_
  refine Run.store (news := [.int .i64 ((Sta.blank (2 * (G + 1))).kind), .int .i64 ((Sta.blank (2 * (G + 1))).node), .int .i64 ((Sta.blank (2 * (G + 1))).phase), .int .i64 ((Sta.blank (2 * (G + 1))).pos), .int .i64 ((Sta.blank (2 * (G + 1))).start), .int .i64 ((Sta.blank (2 * (G + 1))).depth), .int .i64 ((Sta.blank (2 * (G + 1))).org), .slice W2 ((Sta.blank (2 * (G + 1))).caps.length) q3]) (cs' := [_, _, _, _, _, _, _, _]) (hp' := [_, _, _, _, _, _, _]) 0 rfl E S rfl rfl rfl rfl rfl sz93 rfl rfl rfl rfl ?_; clear S; intro w S
  refine Run.nil ?_
  refine then_n ?_
  refine wp_seq ?_
  refine wp_seq ?_
  refine region_plain (n := 3) [(0, .p), (1, .p), (2, .p)] rfl rfl ?_
  refine Run.move rfl E rfl rfl rfl ?_; clear E a; intro a E
  refine Run.len rfl E rfl rfl rfl Try.underlying50 ?_; clear E a; intro a E
  refine Run.move rfl E rfl rfl rfl ?_; clear E a; intro a E
  refine Run.nil ?_
  refine then_n ?_
  refine wp_block ?_
  replace S := S.addNil 5 1
  have S : St _ _ _ [_, _, _, _, _, _, _, _] := S.sel [3, 4, 5, 6, 1, 2, 0, 7] _ rfl rfl
  refine wp_loop_ghost (fun n_ a w => ∃ i : Nat, ∃ A : Option Addr, ∃ c : Nat, ∃ B : Option Addr, ∃ d : Nat, ∃ C : Option Addr, ∃ e : Nat, ∃ ts : List Sta, ∃ wa : Sta, ∃ W : Option Addr, ∃ q : Nat, ∃ BY : Option Addr, ∃ cy : Nat, l.length - i = n_ ∧ Env 127 [(2, .pointer (some ⟨b1, 0, none⟩)), (5, .pointer (some ⟨g, 0, none⟩)), (7, .slice BY ((tbytes G ev ts).length) cy), (8, .int .i64 (ts.length : Int)), (9, .pointer (some ⟨b4, 0, none⟩)), (62, .slice L l.length cL), (63, .int .i64 (l.length : Int)), (64, .int .i64 (i : Int))] a ∧ St _ _ w [.obj g 128 [.int .i64 (G : Int), .int .i64 (ev : Int), .int .i64 lim, .slice A ((tbytes G ev ts).length) c, .slice B ((tstarts G ev ts).length) d, .int .i64 ((lastS ts).kind), .int .i64 ((lastS ts).node), .int .i64 ((lastS ts).phase), .int .i64 ((lastS ts).pos), .int .i64 ((lastS ts).start), .int .i64 ((lastS ts).depth), .int .i64 ((lastS ts).org), .slice C ((lastS ts).caps.length) e], .row (.slice A ((tbytes G ev ts).length) c) 5 1 ((tbytes G ev ts).length) (u8s (tbytes G ev ts)), .row (.slice B ((tstarts G ev ts).length) d) 3 1 ((tstarts G ev ts).length) (ints (tstarts G ev ts)), .row (.slice C ((lastS ts).caps.length) e) 3 1 ((lastS ts).caps.length) (ints (lastS ts).caps), .obj b4 93 [.int .i64 wa.kind, .int .i64 wa.node, .int .i64 wa.phase, .int .i64 wa.pos, .int .i64 wa.start, .int .i64 wa.depth, .int .i64 wa.org, .slice W wa.caps.length q], .row (.slice W wa.caps.length q) 3 1 wa.caps.length (ints wa.caps), .row (.slice BY ((tbytes G ev ts).length) cy) 5 1 ((tbytes G ev ts).length) (u8s (tbytes G ev ts)), .obj b1 102 [.int .i64 (G : Int), .int .i64 (ev : Int), .int .i64 lim]] ∧ (i ≤ l.length) ∧ (ts = takes G ev lim ((l.map StaM.s).take i)) ∧ (ts.length % ev = 0 ∨ wa = prevS G ev ts ts.length)) _ ⟨0, none, 0, none, 0, none, 0, [], (Sta.blank (2 * (G + 1))), W2, q3, none, 0, rfl, E.keeps [(2, _), (5, _), (7, _), (8, _), (9, _), (62, _), (63, _), (64, _)] ⟨rfl, rfl, rfl, rfl, rfl, rfl, rfl, rfl, trivial⟩, S, Nat.zero_le _, rfl, (.inl (Nat.zero_mod _))⟩ ?_
  clear E a S
  rintro n_ a w ⟨i, A, c, B, d, C, e, ts, wa, W, q, BY, cy, rfl, E, S, hi, hts, hwa⟩
  refine wp_seq ?_
  refine region_plain (n := 1) [(0, .p)] rfl rfl ?_
  by_cases hlt : i < l.length
  · skip
    have hok : TapeOK G ev ts := by rw [hts]; exact takes_ok _ hG he0 he1 _
    have hlim : ((tbytes G ev ts).length : Int) ≤ lim := by rw [hts]; exact takes_lim hl0 _
    have htl : ts.length ≤ l.length := by have := takes_len G ev lim ((l.map StaM.s).take i); rw [← hts] at this; simp at this; omega
    obtain ⟨x, hx⟩ : ∃ x, l[i]? = some x := ⟨_, List.getElem?_eq_getElem hlt⟩
    obtain ⟨hx1, hx2⟩ := hL2 x (List.mem_of_getElem? hx)
    have hx3 : x.s.caps.length ≤ 140737488355328 := by unfold reachBytes at hx2; omega
    have hts2 := takes_take G ev lim (l.map StaM.s) (i := i) (s := x.s) (by rw [List.getElem?_map, hx]; rfl)
    rw [← hts] at hts2
    obtain ⟨bL, oL, rfl, hLc⟩ := hL.place (by omega)
    refine Run.lss rfl E rfl rfl rfl rfl (decide_eq_true (by omega)) ?_; clear E a; intro a E
    refine Run.nil ?_
    refine then_n ?_
    refine wp_seq ?_
    refine cond_T E rfl ?_
    refine wp_skip ?_
    refine then_n ?_
    refine wp_seq ?_
    refine wp_block ?_
    refine wp_seq ?_
    refine region_plain (n := 4) [(0, .p), (1, .l), (2, .e), (3, .l)] rfl rfl ?_
    refine Run.indexAddr rfl E rfl rfl rfl rfl Try.underlying50 sz34 (by omega) (ix_at' (m' := i) (by omega)) ?_; clear E a; intro a E
    refine Run.loadN (cs := [.int .i64 x.s.kind, .int .i64 x.s.node, .int .i64 x.s.phase, .int .i64 x.s.pos, .int .i64 x.s.start, .int .i64 x.s.depth, .int .i64 x.s.org, .slice x.A x.s.caps.length x.c]) rfl rfl E S rfl rfl rfl ag34 rfl (fun _ s_ => rdAtL hLc s_ _ _ (stams_get hx)) ?_; clear E a; intro a E
    refine Run.alloc rfl rfl E S rfl rfl z34 rfl ?_; clear E a S; intro b5 w a E S B_; clear B_
    refine Run.store (news := [.int .i64 x.s.kind, .int .i64 x.s.node, .int .i64 x.s.phase, .int .i64 x.s.pos, .int .i64 x.s.start, .int .i64 x.s.depth, .int .i64 x.s.org, .slice x.A x.s.caps.length x.c]) (cs' := [_, _, _, _, _, _, _, _]) (hp' := [_, _, _, _, _, _, _, _, _]) 0 rfl E S rfl rfl rfl rfl rfl sz34 rfl rfl rfl rfl ?_; clear S; intro w S
    refine Run.nil ?_
    refine then_n ?_
    refine wp_seq ?_
    refine region_plain (n := 4) [(0, .p), (1, .l), (2, .l), (3, .p)] rfl rfl ?_
    refine Run.move rfl E rfl rfl rfl ?_; clear E a; intro a E
    refine Run.loadN (cs := [.int .i64 x.s.kind, .int .i64 x.s.node, .int .i64 x.s.phase, .int .i64 x.s.pos, .int .i64 x.s.start, .int .i64 x.s.depth, .int .i64 x.s.org, .slice x.A x.s.caps.length x.c]) rfl rfl E S rfl rfl rfl ag34 rfl (fun _ s => objAll s 0 rfl) ?_; clear E a; intro a E
    replace S : St _ _ _ [.obj _ _ [_, _, _, _, _, _, _, _, _, _, _, _, _], _, _, _, .obj _ _ [_, _, _, _, _, _, _, _], .obj _ _ [_, _, _, _, _, _, _, _], _, _, .obj _ _ [_, _, _]] := S.sel [1, 2, 3, 4, 0, 5, 6, 7, 8] _ rfl rfl
    refine Run.call (args := [.pointer (some ⟨g, 0, none⟩), .agg #[.int .i64 x.s.kind, .int .i64 x.s.node, .int .i64 x.s.phase, .int .i64 x.s.pos, .int .i64 x.s.start, .int .i64 x.s.depth, .int .i64 x.s.org, .slice x.A x.s.caps.length x.c]]) rfl rfl E rfl rfl Try.func75 nm75 rfl rfl (tadd_walk (f := x.c) (G := G) (ev := ev) (lim := lim) (ts := ts) (s := x.s) (St.ownL (A := [.obj g 128 [.int .i64 (G : Int), .int .i64 (ev : Int), .int .i64 lim, .slice A ((tbytes G ev ts).length) c, .slice B ((tstarts G ev ts).length) d, .int .i64 ((lastS ts).kind), .int .i64 ((lastS ts).node), .int .i64 ((lastS ts).phase), .int .i64 ((lastS ts).pos), .int .i64 ((lastS ts).start), .int .i64 ((lastS ts).depth), .int .i64 ((lastS ts).org), .slice C ((lastS ts).caps.length) e], .row (.slice A ((tbytes G ev ts).length) c) 5 1 ((tbytes G ev ts).length) (u8s (tbytes G ev ts)), .row (.slice B ((tstarts G ev ts).length) d) 3 1 ((tstarts G ev ts).length) (ints (tstarts G ev ts)), .row (.slice C ((lastS ts).caps.length) e) 3 1 ((lastS ts).caps.length) (ints (lastS ts).caps)]) (R := [_, _, _, _, _]) S) hok hlim hl1 (hx1.bel S.belT) (fun h_ b_ o_ e_ m_ => absurd (St.newL (A := [.obj g 128 [.int .i64 (G : Int), .int .i64 (ev : Int), .int .i64 lim, .slice A ((tbytes G ev ts).length) c, .slice B ((tstarts G ev ts).length) d, .int .i64 ((lastS ts).kind), .int .i64 ((lastS ts).node), .int .i64 ((lastS ts).phase), .int .i64 ((lastS ts).pos), .int .i64 ((lastS ts).start), .int .i64 ((lastS ts).depth), .int .i64 ((lastS ts).org), .slice C ((lastS ts).caps.length) e], .row (.slice A ((tbytes G ev ts).length) c) 5 1 ((tbytes G ev ts).length) (u8s (tbytes G ev ts)), .row (.slice B ((tstarts G ev ts).length) d) 3 1 ((tstarts G ev ts).length) (ints (tstarts G ev ts)), .row (.slice C ((lastS ts).caps.length) e) 3 1 ((lastS ts).caps.length) (ints (lastS ts).caps)]) (R := [_, _, _, _, _]) S m_) (Nat.not_le.2 (hx1.lt h_ (by decide) e_))) (hx3)) ?_; rintro e_ w ⟨rfl, Ax6, cx7, Bx8, dx9, Cx10, ex11, S_⟩; refine ⟨_, rfl, (fun h => by cases h), ?_⟩; clear E a; intro a E
    replace S : St _ _ _ [.obj _ _ [_, _, _, _, _, _, _, _, _, _, _, _, _], _, _, _, .obj _ _ [_, _, _, _, _, _, _, _], .obj _ _ [_, _, _, _, _, _, _, _], _, _, .obj _ _ [_, _, _]] := St.call (A := [.obj g 128 [.int .i64 (G : Int), .int .i64 (ev : Int), .int .i64 lim, .slice A ((tbytes G ev ts).length) c, .slice B ((tstarts G ev ts).length) d, .int .i64 ((lastS ts).kind), .int .i64 ((lastS ts).node), .int .i64 ((lastS ts).phase), .int .i64 ((lastS ts).pos), .int .i64 ((lastS ts).start), .int .i64 ((lastS ts).depth), .int .i64 ((lastS ts).org), .slice C ((lastS ts).caps.length) e], .row (.slice A ((tbytes G ev ts).length) c) 5 1 ((tbytes G ev ts).length) (u8s (tbytes G ev ts)), .row (.slice B ((tstarts G ev ts).length) d) 3 1 ((tstarts G ev ts).length) (ints (tstarts G ev ts)), .row (.slice C ((lastS ts).caps.length) e) 3 1 ((lastS ts).caps.length) (ints (lastS ts).caps)]) (R := [_, _, _, _, _]) S S_; clear S_
    refine Run.assign rfl E rfl rfl rfl ?_; clear E a; intro a E
    refine Run.nil ?_
    refine then_n ?_
    refine wp_mid (fun a w => ∃ pw : Sta, ∃ W1 : Option Addr, ∃ q1 : Nat, Env 127 [(2, .pointer (some ⟨b1, 0, none⟩)), (5, .pointer (some ⟨g, 0, none⟩)), (7, .slice BY ((tbytes G ev ts).length) cy), (8, .int .i64 (ts.length : Int)), (9, .pointer (some ⟨b4, 0, none⟩)), (11, .pointer (some ⟨b5, 0, none⟩)), (12, .int .i64 (addE G ev lim ts x.s)), (62, .slice (some ⟨bL, oL, none⟩) l.length cL), (63, .int .i64 (l.length : Int)), (64, .int .i64 (i : Int))] a ∧ St [] w0 w [.obj b4 93 [.int .i64 pw.kind, .int .i64 pw.node, .int .i64 pw.phase, .int .i64 pw.pos, .int .i64 pw.start, .int .i64 pw.depth, .int .i64 pw.org, .slice W1 pw.caps.length q1], .row (.slice W1 pw.caps.length q1) 3 1 pw.caps.length (ints pw.caps), .obj g 128 [.int .i64 (G : Int), .int .i64 (ev : Int), .int .i64 lim, .slice Ax6 ((tbytes G ev (addT G ev lim ts x.s)).length) cx7, .slice Bx8 ((tstarts G ev (addT G ev lim ts x.s)).length) dx9, .int .i64 ((lastS (addT G ev lim ts x.s)).kind), .int .i64 ((lastS (addT G ev lim ts x.s)).node), .int .i64 ((lastS (addT G ev lim ts x.s)).phase), .int .i64 ((lastS (addT G ev lim ts x.s)).pos), .int .i64 ((lastS (addT G ev lim ts x.s)).start), .int .i64 ((lastS (addT G ev lim ts x.s)).depth), .int .i64 ((lastS (addT G ev lim ts x.s)).org), .slice Cx10 ((lastS (addT G ev lim ts x.s)).caps.length) ex11], .row (.slice Ax6 ((tbytes G ev (addT G ev lim ts x.s)).length) cx7) 5 1 ((tbytes G ev (addT G ev lim ts x.s)).length) (u8s (tbytes G ev (addT G ev lim ts x.s))), .row (.slice Bx8 ((tstarts G ev (addT G ev lim ts x.s)).length) dx9) 3 1 ((tstarts G ev (addT G ev lim ts x.s)).length) (ints (tstarts G ev (addT G ev lim ts x.s))), .row (.slice Cx10 ((lastS (addT G ev lim ts x.s)).caps.length) ex11) 3 1 ((lastS (addT G ev lim ts x.s)).caps.length) (ints (lastS (addT G ev lim ts x.s)).caps), .obj b5 34 [.int .i64 x.s.kind, .int .i64 x.s.node, .int .i64 x.s.phase, .int .i64 x.s.pos, .int .i64 x.s.start, .int .i64 x.s.depth, .int .i64 x.s.org, .slice x.A x.s.caps.length x.c], .row (.slice BY ((tbytes G ev ts).length) cy) 5 1 ((tbytes G ev ts).length) (u8s (tbytes G ev ts)), .obj b1 102 [.int .i64 (G : Int), .int .i64 (ev : Int), .int .i64 lim]] ∧ (pw = prevS G ev ts ts.length)) ?_ ?_
    · skip
      refine wp_seq ?_
      refine region_plain (n := 5) [(0, .p), (1, .p), (2, .l), (3, .p), (4, .p)] rfl rfl ?_
      refine Run.move rfl E rfl rfl rfl ?_; clear E a; intro a E
      refine Run.fieldAddr rfl E rfl rfl rfl fo102_1 (rfl) ?_; clear E a; intro a E
      refine Run.load1 rfl rfl E S rfl rfl rfl one3 (fun _ s => s.objCell 8 1 rfl rfl) ?_; clear E a; intro a E
      refine Run.rem rfl E rfl rfl rfl rfl (by omega) (q := ((ts.length % ev : Nat) : Int)) (rem_nn _ _) ?_; clear E a; intro a E
      by_cases hm : ts.length % ev = 0
      · skip
        refine Run.eqi rfl E rfl rfl rfl rfl (decide_eq_true (by rw [hm]; rfl)) ?_; clear E a; intro a E
        refine Run.nil ?_
        refine then_n ?_
        refine cond_T E rfl ?_
        refine region_plain (n := 4) [(0, .p), (1, .l), (2, .e), (3, .l)] rfl rfl ?_
        refine Run.fieldAddr rfl E rfl rfl rfl fo102_0 (rfl) ?_; clear E a; intro a E
        refine Run.load1 rfl rfl E S rfl rfl rfl one3 (fun _ s => s.objCell 8 0 rfl rfl) ?_; clear E a; intro a E
        refine Run.call (args := [.int .i64 (G : Int)]) rfl rfl E rfl rfl Try.func74 nm74 rfl rfl (empty_walk (bl := Sta.blank (2 * (G + 1))) rfl hG) ?_; rintro e_ w ⟨W12, q13, rfl, S_⟩; refine ⟨_, rfl, (fun _ => S_.belT), ?_⟩; clear E a; intro a E
        replace S : St _ _ _ [_, .obj _ _ [_, _, _, _, _, _, _, _, _, _, _, _, _], _, _, _, .obj _ _ [_, _, _, _, _, _, _, _], .obj _ _ [_, _, _, _, _, _, _, _], _, _, .obj _ _ [_, _, _]] := St.call (A := []) (R := [_, _, _, _, _, _, _, _, _]) S S_; clear S_
        refine Run.store (news := [.int .i64 ((Sta.blank (2 * (G + 1))).kind), .int .i64 ((Sta.blank (2 * (G + 1))).node), .int .i64 ((Sta.blank (2 * (G + 1))).phase), .int .i64 ((Sta.blank (2 * (G + 1))).pos), .int .i64 ((Sta.blank (2 * (G + 1))).start), .int .i64 ((Sta.blank (2 * (G + 1))).depth), .int .i64 ((Sta.blank (2 * (G + 1))).org), .slice W12 ((Sta.blank (2 * (G + 1))).caps.length) q13]) (cs' := [_, _, _, _, _, _, _, _]) (hp' := [_, _, _, _, _, _, _, _, _, _]) 6 rfl E S rfl rfl rfl rfl rfl sz93 rfl rfl rfl rfl ?_; clear S; intro w S
        refine Run.nil ?_
        refine then_n ?_
        have S : St _ _ _ [_, _, _, _, _, _, _, _, _, _] := S.sel [7, 6, 0, 1, 2, 3, 4, 5, 8, 9] _ rfl rfl
        have S := S.drop1
        exact ⟨(Sta.blank (2 * (G + 1))), W12, q13, E.keeps [(2, _), (5, _), (7, _), (8, _), (9, _), (11, _), (12, _), (62, _), (63, _), (64, _)] ⟨rfl, rfl, rfl, rfl, rfl, rfl, rfl, rfl, rfl, rfl, trivial⟩, S, (prev_blank hm).symm⟩
      · skip
        refine Run.eqi rfl E rfl rfl rfl rfl (decide_eq_false (nat0 hm)) ?_; clear E a; intro a E
        refine Run.nil ?_
        refine then_n ?_
        refine cond_F E rfl ?_
        refine wp_skip ?_
        refine then_n ?_
        have S : St _ _ _ [_, _, _, _, _, _, _, _, _] := S.sel [5, 6, 0, 1, 2, 3, 4, 7, 8] _ rfl rfl
        exact ⟨wa, W, q, E.keeps [(2, _), (5, _), (7, _), (8, _), (9, _), (11, _), (12, _), (62, _), (63, _), (64, _)] ⟨rfl, rfl, rfl, rfl, rfl, rfl, rfl, rfl, rfl, rfl, trivial⟩, S, (hwa.resolve_left hm)⟩
    clear E a S
    rintro a w ⟨pw, W1, q1, E, S, hpw⟩
    obtain ⟨p1, p2, p3⟩ := hok.prev (Nat.le_refl ts.length)
    rw [← hpw] at p1 p2 p3
    refine wp_seq ?_
    refine region_plain (n := 1) [(0, .p)] rfl rfl ?_
    refine Run.assign rfl E rfl rfl rfl ?_; clear E a; intro a E
    refine Run.nil ?_
    refine then_n ?_
    refine wp_seq ?_
    refine wp_seq ?_
    refine region_plain (n := 5) [(0, .l), (1, .p), (2, .l), (3, .e), (4, .p)] rfl rfl ?_
    refine Run.loadN (cs := [.int .i64 x.s.kind, .int .i64 x.s.node, .int .i64 x.s.phase, .int .i64 x.s.pos, .int .i64 x.s.start, .int .i64 x.s.depth, .int .i64 x.s.org, .slice x.A x.s.caps.length x.c]) rfl rfl E S rfl rfl rfl ag34 rfl (fun _ s => objAll s 6 rfl) ?_; clear E a; intro a E
    refine Run.fieldAddr rfl E rfl rfl rfl fo102_0 (rfl) ?_; clear E a; intro a E
    refine Run.load1 rfl rfl E S rfl rfl rfl one3 (fun _ s => s.objCell 8 0 rfl rfl) ?_; clear E a; intro a E
    refine Run.call (args := [.agg #[.int .i64 x.s.kind, .int .i64 x.s.node, .int .i64 x.s.phase, .int .i64 x.s.pos, .int .i64 x.s.start, .int .i64 x.s.depth, .int .i64 x.s.org, .slice x.A x.s.caps.length x.c], .int .i64 (G : Int)]) rfl rfl E rfl rfl Try.func26 nm26 rfl rfl (right_walk (s := x.s) (g := (G : Int)) (hx1.bel S.belT) hx3) ?_; rintro e_ w ⟨rfl, B_⟩; refine ⟨_, rfl, fun _ => B_, ?_⟩; clear E a; replace S := S.bel B_; intro a E
    clear B_
    by_cases hR : x.s.Right (G : Int)
    · skip
      replace E := E.setb 82 rfl (decide_eq_true hR)
      obtain ⟨hss, hsc⟩ := base_small p1
      obtain ⟨hst, htc⟩ := right_small hR
      obtain ⟨hle, ht200, hk1, hk2⟩ := right_len p1 (by rw [p2]; exact hR)
      have hrl := rec18_len pw x.s p1 (by rw [p2]; exact hR)
      have hnl : (tbytes G ev ts ++ rec18 pw x.s).length = (tbytes G ev ts).length + (rec18 pw x.s).length := List.length_append
      refine Run.not rfl E rfl rfl rfl rfl ?_; clear E a; intro a E
      refine Run.nil ?_
      refine then_n ?_
      refine cond_F E rfl ?_
      refine wp_seq ?_
      refine region_drawS (n := 5) [(0, .t), (1, .t), (2, .e), (3, .e), (4, .p)] [0, 0, 2, 7, 15] S mixed rfl rfl (by kernel_rfl) (fun _ _ _ _ _ h => h) ?_; clear S; intro w S B_; clear B_
      refine Run.loadN (cs := [.int .i64 pw.kind, .int .i64 pw.node, .int .i64 pw.phase, .int .i64 pw.pos, .int .i64 pw.start, .int .i64 pw.depth, .int .i64 pw.org, .slice W1 pw.caps.length q1]) rfl rfl E S rfl rfl rfl ag93 rfl (fun _ s => objAll s 0 rfl) ?_; clear E a; intro a E
      refine Run.loadN (cs := [.int .i64 x.s.kind, .int .i64 x.s.node, .int .i64 x.s.phase, .int .i64 x.s.pos, .int .i64 x.s.start, .int .i64 x.s.depth, .int .i64 x.s.org, .slice x.A x.s.caps.length x.c]) rfl rfl E S rfl rfl rfl ag34 rfl (fun _ s => objAll s 6 rfl) ?_; clear E a; intro a E
      refine Run.call (args := [.agg #[.int .i64 x.s.kind, .int .i64 x.s.node, .int .i64 x.s.phase, .int .i64 x.s.pos, .int .i64 x.s.start, .int .i64 x.s.depth, .int .i64 x.s.org, .slice x.A x.s.caps.length x.c]]) rfl rfl E rfl rfl Try.func76 nm76 rfl rfl (of19_walk (s := x.s) (A := x.A) (c := x.c)) ?_; rintro e_ w ⟨rfl, B_⟩; refine ⟨_, rfl, fun _ => B_, ?_⟩; clear E a; replace S := S.bel B_; intro a E
      clear B_
      refine Run.call (args := [.agg #[.int .i64 pw.kind, .int .i64 pw.node, .int .i64 pw.phase, .int .i64 pw.pos, .int .i64 pw.start, .int .i64 pw.depth, .int .i64 pw.org, .slice W1 pw.caps.length q1], .agg #[.int .i64 x.s.kind, .int .i64 x.s.node, .int .i64 x.s.phase, .int .i64 x.s.pos, .int .i64 x.s.start, .int .i64 x.s.depth, .int .i64 x.s.org, .slice x.A x.s.caps.length x.c]]) rfl rfl E rfl rfl Try.func64 nm64 rfl rfl (rec18_walk (s := pw) (t := x.s) (S.rd 1 rfl) (hx1.bel S.belT) hss hsc hst htc hle ht200 hk1 hk2) ?_; rintro e_ w ⟨X14, e15, rfl, S_⟩; refine ⟨_, rfl, (fun _ => S_.belT), ?_⟩; clear E a; intro a E
      replace S : St _ _ _ [_, .obj _ _ [_, _, _, _, _, _, _, _], _, .obj _ _ [_, _, _, _, _, _, _, _, _, _, _, _, _], _, _, _, .obj _ _ [_, _, _, _, _, _, _, _], _, .obj _ _ [_, _, _]] := St.call (A := []) (R := [_, _, _, _, _, _, _, _, _]) S S_; clear S_
      refine Run.assign rfl E rfl rfl rfl ?_; clear E a; intro a E
      refine Run.nil ?_
      refine then_n ?_
      refine wp_seq ?_
      refine region_plain (n := 8) [(0, .p), (1, .p), (2, .p), (3, .p), (4, .p), (5, .p), (6, .l), (7, .p)] rfl rfl ?_
      refine Run.move rfl E rfl rfl rfl ?_; clear E a; intro a E
      refine Run.len rfl E rfl rfl rfl Try.underlying22 ?_; clear E a; intro a E
      refine Run.move rfl E rfl rfl rfl ?_; clear E a; intro a E
      refine Run.len rfl E rfl rfl rfl Try.underlying22 ?_; clear E a; intro a E
      refine Run.add rfl E rfl rfl rfl rfl (i64_ok (by omega)) ?_; clear E a; intro a E
      refine Run.fieldAddr rfl E rfl rfl rfl fo102_2 (rfl) ?_; clear E a; intro a E
      refine Run.load1 rfl rfl E S rfl rfl rfl one3 (fun _ s => s.objCell 9 2 rfl rfl) ?_; clear E a; intro a E
      by_cases hf : lim < ((tbytes G ev ts ++ rec18 pw x.s).length : Int)
      · skip
        have hT : addT G ev lim ts x.s = ts := if_neg (fun h => by have h2 := h.2; rw [← hpw] at h2; omega)
        have hE : addE G ev lim ts x.s = 13 := (by unfold addE; rw [if_pos hR, if_neg (by rw [← hpw]; omega)])
        rw [hT] at S
        rw [hE] at E
        refine Run.gtr rfl E rfl rfl rfl rfl (decide_eq_true (by omega)) ?_; clear E a; intro a E
        refine Run.nil ?_
        refine then_n ?_
        refine cond_T E rfl ?_
        refine region_plain (n := 1) [(0, .p)] rfl rfl ?_
        refine Run.assign rfl E rfl rfl rfl ?_; clear E a; intro a E
        refine Run.nil ?_
        refine then_n ?_
        refine wp_seq ?_
        refine region_plain (n := 16) [(0, .p), (1, .p), (2, .p), (3, .p), (4, .p), (5, .e), (6, .p), (7, .p), (8, .p), (9, .p), (10, .p), (11, .e), (12, .p), (13, .p), (14, .p), (15, .p)] rfl rfl ?_
        refine Run.move rfl E rfl rfl rfl ?_; clear E a; intro a E
        refine Run.move rfl E rfl rfl rfl ?_; clear E a; intro a E
        refine Run.nei rfl E rfl rfl rfl rfl (b := false) (by decide) ?_; clear E a; intro a E
        refine Run.move rfl E rfl rfl rfl ?_; clear E a; intro a E
        refine Run.move rfl E rfl rfl rfl ?_; clear E a; intro a E
        refine Run.call (args := [.pointer (some ⟨g, 0, none⟩)]) rfl rfl E rfl rfl Try.func38 nm38 rfl rfl (tape_len (St.holdsL (A := [.obj g 128 [.int .i64 (G : Int), .int .i64 (ev : Int), .int .i64 lim, .slice Ax6 ((tbytes G ev ts).length) cx7, .slice Bx8 ((tstarts G ev ts).length) dx9, .int .i64 ((lastS ts).kind), .int .i64 ((lastS ts).node), .int .i64 ((lastS ts).phase), .int .i64 ((lastS ts).pos), .int .i64 ((lastS ts).start), .int .i64 ((lastS ts).depth), .int .i64 ((lastS ts).org), .slice Cx10 ((lastS ts).caps.length) ex11], .row (.slice Ax6 ((tbytes G ev ts).length) cx7) 5 1 ((tbytes G ev ts).length) (u8s (tbytes G ev ts)), .row (.slice Bx8 ((tstarts G ev ts).length) dx9) 3 1 ((tstarts G ev ts).length) (ints (tstarts G ev ts)), .row (.slice Cx10 ((lastS ts).caps.length) ex11) 3 1 ((lastS ts).caps.length) (ints (lastS ts).caps)]) (R := [_, _, _, _, _, _]) (S.sel [3, 4, 5, 6, 0, 1, 2, 7, 8, 9] ([.obj g 128 [.int .i64 (G : Int), .int .i64 (ev : Int), .int .i64 lim, .slice Ax6 ((tbytes G ev ts).length) cx7, .slice Bx8 ((tstarts G ev ts).length) dx9, .int .i64 ((lastS ts).kind), .int .i64 ((lastS ts).node), .int .i64 ((lastS ts).phase), .int .i64 ((lastS ts).pos), .int .i64 ((lastS ts).start), .int .i64 ((lastS ts).depth), .int .i64 ((lastS ts).org), .slice Cx10 ((lastS ts).caps.length) ex11], .row (.slice Ax6 ((tbytes G ev ts).length) cx7) 5 1 ((tbytes G ev ts).length) (u8s (tbytes G ev ts)), .row (.slice Bx8 ((tstarts G ev ts).length) dx9) 3 1 ((tstarts G ev ts).length) (ints (tstarts G ev ts)), .row (.slice Cx10 ((lastS ts).caps.length) ex11) 3 1 ((lastS ts).caps.length) (ints (lastS ts).caps)] ++ [_, _, _, _, _, _]) rfl rfl))) ?_; rintro e_ w ⟨rfl, B_⟩; refine ⟨_, rfl, fun _ => B_, ?_⟩; clear E a; replace S := S.bel B_; intro a E
        clear B_
        refine Run.move rfl E rfl rfl rfl ?_; clear E a; intro a E
        refine Run.nei rfl E rfl rfl rfl rfl (decide_eq_false (by rw [tstarts_len]; omega)) ?_; clear E a; intro a E
        refine Run.pickF rfl E rfl rfl rfl rfl ?_; clear E a; intro a E
        refine Run.move rfl E rfl rfl rfl ?_; clear E a; intro a E
        refine Run.move rfl E rfl rfl rfl ?_; clear E a; intro a E
        refine Run.call (args := [.pointer (some ⟨g, 0, none⟩)]) rfl rfl E rfl rfl Try.func77 nm77 rfl rfl (tape_size (St.holdsL (A := [.obj g 128 [.int .i64 (G : Int), .int .i64 (ev : Int), .int .i64 lim, .slice Ax6 ((tbytes G ev ts).length) cx7, .slice Bx8 ((tstarts G ev ts).length) dx9, .int .i64 ((lastS ts).kind), .int .i64 ((lastS ts).node), .int .i64 ((lastS ts).phase), .int .i64 ((lastS ts).pos), .int .i64 ((lastS ts).start), .int .i64 ((lastS ts).depth), .int .i64 ((lastS ts).org), .slice Cx10 ((lastS ts).caps.length) ex11], .row (.slice Ax6 ((tbytes G ev ts).length) cx7) 5 1 ((tbytes G ev ts).length) (u8s (tbytes G ev ts)), .row (.slice Bx8 ((tstarts G ev ts).length) dx9) 3 1 ((tstarts G ev ts).length) (ints (tstarts G ev ts)), .row (.slice Cx10 ((lastS ts).caps.length) ex11) 3 1 ((lastS ts).caps.length) (ints (lastS ts).caps)]) (R := [_, _, _, _, _, _]) (S.sel [3, 4, 5, 6, 0, 1, 2, 7, 8, 9] ([.obj g 128 [.int .i64 (G : Int), .int .i64 (ev : Int), .int .i64 lim, .slice Ax6 ((tbytes G ev ts).length) cx7, .slice Bx8 ((tstarts G ev ts).length) dx9, .int .i64 ((lastS ts).kind), .int .i64 ((lastS ts).node), .int .i64 ((lastS ts).phase), .int .i64 ((lastS ts).pos), .int .i64 ((lastS ts).start), .int .i64 ((lastS ts).depth), .int .i64 ((lastS ts).org), .slice Cx10 ((lastS ts).caps.length) ex11], .row (.slice Ax6 ((tbytes G ev ts).length) cx7) 5 1 ((tbytes G ev ts).length) (u8s (tbytes G ev ts)), .row (.slice Bx8 ((tstarts G ev ts).length) dx9) 3 1 ((tstarts G ev ts).length) (ints (tstarts G ev ts)), .row (.slice Cx10 ((lastS ts).caps.length) ex11) 3 1 ((lastS ts).caps.length) (ints (lastS ts).caps)] ++ [_, _, _, _, _, _]) rfl rfl))) ?_; rintro e_ w ⟨rfl, B_⟩; refine ⟨_, rfl, fun _ => B_, ?_⟩; clear E a; replace S := S.bel B_; intro a E
        clear B_
        refine Run.move rfl E rfl rfl rfl ?_; clear E a; intro a E
        refine Run.len rfl E rfl rfl rfl Try.underlying22 ?_; clear E a; intro a E
        refine Run.nei rfl E rfl rfl rfl rfl (decide_eq_false (fun h => h rfl)) ?_; clear E a; intro a E
        refine Run.pickF rfl E rfl rfl rfl rfl ?_; clear E a; intro a E
        refine Run.nil ?_
        refine then_n ?_
        refine cond_F E rfl ?_
        refine wp_skip ?_
        refine blk_n ?_
        refine then_n ?_
        refine region_plain (n := 2) [(0, .p), (1, .p)] rfl rfl ?_
        refine Run.add rfl E rfl rfl rfl rfl (i64_ok (by omega)) ?_; clear E a; intro a E
        refine Run.move rfl E rfl rfl rfl ?_; clear E a; intro a E
        refine Run.nil ?_
        refine then_n ?_
        replace E := E.setv 64 rfl (show Value.int .i64 ((i : Int) + 1) = .int .i64 ((i + 1 : Nat) : Int) from rfl)
        have S : St _ _ _ [_, _, _, _, _, _, _, _, _, _] := S.sel [0, 7, 3, 4, 5, 6, 1, 2, 8, 9] _ rfl rfl
        have S := S.drop1.drop1
        exact ⟨_, (by omega), (i + 1), Ax6, cx7, Bx8, dx9, Cx10, ex11, ts, pw, W1, q1, BY, cy, rfl, E.keeps [(2, _), (5, _), (7, _), (8, _), (9, _), (62, _), (63, _), (64, _)] ⟨rfl, rfl, rfl, rfl, rfl, rfl, rfl, rfl, trivial⟩, S, (by omega), (by rw [hts2, hT]), (.inr hpw)⟩
      · skip
        have hT : addT G ev lim ts x.s = (ts ++ [x.s]) := if_pos ⟨hR, by rw [← hpw]; omega⟩
        have hE : addE G ev lim ts x.s = 0 := (by unfold addE; rw [if_pos hR, if_pos (by rw [← hpw]; omega)])
        rw [hT] at S
        rw [hE] at E
        refine Run.gtr rfl E rfl rfl rfl rfl (decide_eq_false (by omega)) ?_; clear E a; intro a E
        refine Run.nil ?_
        refine then_n ?_
        refine cond_F E rfl ?_
        refine wp_seq ?_
        refine region_plain (n := 4) [(0, .p), (1, .p), (2, .l), (3, .p)] rfl rfl ?_
        refine Run.move rfl E rfl rfl rfl ?_; clear E a; intro a E
        refine Run.move rfl E rfl rfl rfl ?_; clear E a; intro a E
        refine Run.appendRd (news := u8s (rec18 pw x.s)) (nm := (tbytes G ev ts ++ rec18 pw x.s).length) 8 rfl E S rfl rfl rfl rfl rfl Try.underlying22 I5 rfl rfl (S.rd 0 rfl) (u8s_one _) (by simp only [List.length_append]) (by omega) (by omega) ?_; clear E a S; intro A16 c17 w a E S
        rw [u8s_append] at S
        replace S : St _ _ _ [_, .obj _ _ [_, _, _, _, _, _, _, _], _, .obj _ _ [_, _, _, _, _, _, _, _, _, _, _, _, _], _, _, _, .obj _ _ [_, _, _, _, _, _, _, _], _, .obj _ _ [_, _, _]] := S
        have eT : tbytes G ev ts ++ rec18 pw x.s = tbytes G ev (ts ++ [x.s]) := by rw [tbytes_snoc, hpw]
        rw [eT] at S E
        refine Run.assign rfl E rfl rfl rfl ?_; clear E a; intro a E
        refine Run.nil ?_
        refine then_n ?_
        refine wp_seq ?_
        refine region_plain (n := 4) [(0, .l), (1, .e), (2, .e), (3, .l)] rfl rfl ?_
        refine Run.loadN (cs := [.int .i64 x.s.kind, .int .i64 x.s.node, .int .i64 x.s.phase, .int .i64 x.s.pos, .int .i64 x.s.start, .int .i64 x.s.depth, .int .i64 x.s.org, .slice x.A x.s.caps.length x.c]) rfl rfl E S rfl rfl rfl ag34 rfl (fun _ s => objAll s 7 rfl) ?_; clear E a; intro a E
        refine Run.call (args := [.agg #[.int .i64 x.s.kind, .int .i64 x.s.node, .int .i64 x.s.phase, .int .i64 x.s.pos, .int .i64 x.s.start, .int .i64 x.s.depth, .int .i64 x.s.org, .slice x.A x.s.caps.length x.c]]) rfl rfl E rfl rfl Try.func44 nm44 rfl rfl (own_walk (s := x.s) (hx1.bel S.belT) (by omega)) ?_; rintro e_ w ⟨D18, e19, rfl, S_⟩; refine ⟨_, rfl, (fun _ => S_.belT), ?_⟩; clear E a; intro a E
        replace S : St _ _ _ [_, _, .obj _ _ [_, _, _, _, _, _, _, _], _, .obj _ _ [_, _, _, _, _, _, _, _, _, _, _, _, _], _, _, _, .obj _ _ [_, _, _, _, _, _, _, _], _, .obj _ _ [_, _, _]] := St.call (A := []) (R := [_, _, _, _, _, _, _, _, _, _]) S S_; clear S_
        refine Run.call (args := [.agg #[.int .i64 x.s.kind, .int .i64 x.s.node, .int .i64 x.s.phase, .int .i64 x.s.pos, .int .i64 x.s.start, .int .i64 x.s.depth, .int .i64 x.s.org, .slice D18 x.s.caps.length e19]]) rfl rfl E rfl rfl Try.func76 nm76 rfl rfl (of19_walk (s := x.s) (A := D18) (c := e19)) ?_; rintro e_ w ⟨rfl, B_⟩; refine ⟨_, rfl, fun _ => B_, ?_⟩; clear E a; replace S := S.bel B_; intro a E
        clear B_
        refine Run.store (news := [.int .i64 x.s.kind, .int .i64 x.s.node, .int .i64 x.s.phase, .int .i64 x.s.pos, .int .i64 x.s.start, .int .i64 x.s.depth, .int .i64 x.s.org, .slice D18 x.s.caps.length e19]) (cs' := [_, _, _, _, _, _, _, _]) (hp' := [_, _, _, _, _, _, _, _, _, _, _]) 2 rfl E S rfl rfl rfl rfl rfl sz93 rfl rfl rfl rfl ?_; clear S; intro w S
        refine Run.nil ?_
        refine then_n ?_
        refine region_plain (n := 3) [(0, .p), (1, .p), (2, .p)] rfl rfl ?_
        refine Run.move rfl E rfl rfl rfl ?_; clear E a; intro a E
        refine Run.add rfl E rfl rfl rfl rfl (i64_ok (by omega)) ?_; clear E a; intro a E
        refine Run.assign rfl E rfl rfl rfl ?_; clear E a; intro a E
        refine Run.nil ?_
        refine then_n ?_
        refine wp_seq ?_
        refine region_plain (n := 16) [(0, .p), (1, .p), (2, .p), (3, .p), (4, .p), (5, .e), (6, .p), (7, .p), (8, .p), (9, .p), (10, .p), (11, .e), (12, .p), (13, .p), (14, .p), (15, .p)] rfl rfl ?_
        refine Run.move rfl E rfl rfl rfl ?_; clear E a; intro a E
        refine Run.move rfl E rfl rfl rfl ?_; clear E a; intro a E
        refine Run.nei rfl E rfl rfl rfl rfl (b := false) (by decide) ?_; clear E a; intro a E
        refine Run.move rfl E rfl rfl rfl ?_; clear E a; intro a E
        refine Run.move rfl E rfl rfl rfl ?_; clear E a; intro a E
        refine Run.call (args := [.pointer (some ⟨g, 0, none⟩)]) rfl rfl E rfl rfl Try.func38 nm38 rfl rfl (tape_len (St.holdsL (A := [.obj g 128 [.int .i64 (G : Int), .int .i64 (ev : Int), .int .i64 lim, .slice Ax6 ((tbytes G ev (ts ++ [x.s])).length) cx7, .slice Bx8 ((tstarts G ev (ts ++ [x.s])).length) dx9, .int .i64 ((lastS (ts ++ [x.s])).kind), .int .i64 ((lastS (ts ++ [x.s])).node), .int .i64 ((lastS (ts ++ [x.s])).phase), .int .i64 ((lastS (ts ++ [x.s])).pos), .int .i64 ((lastS (ts ++ [x.s])).start), .int .i64 ((lastS (ts ++ [x.s])).depth), .int .i64 ((lastS (ts ++ [x.s])).org), .slice Cx10 ((lastS (ts ++ [x.s])).caps.length) ex11], .row (.slice Ax6 ((tbytes G ev (ts ++ [x.s])).length) cx7) 5 1 ((tbytes G ev (ts ++ [x.s])).length) (u8s (tbytes G ev (ts ++ [x.s]))), .row (.slice Bx8 ((tstarts G ev (ts ++ [x.s])).length) dx9) 3 1 ((tstarts G ev (ts ++ [x.s])).length) (ints (tstarts G ev (ts ++ [x.s]))), .row (.slice Cx10 ((lastS (ts ++ [x.s])).caps.length) ex11) 3 1 ((lastS (ts ++ [x.s])).caps.length) (ints (lastS (ts ++ [x.s])).caps)]) (R := [_, _, _, _, _, _, _]) (S.sel [4, 5, 6, 7, 0, 1, 2, 3, 8, 9, 10] ([.obj g 128 [.int .i64 (G : Int), .int .i64 (ev : Int), .int .i64 lim, .slice Ax6 ((tbytes G ev (ts ++ [x.s])).length) cx7, .slice Bx8 ((tstarts G ev (ts ++ [x.s])).length) dx9, .int .i64 ((lastS (ts ++ [x.s])).kind), .int .i64 ((lastS (ts ++ [x.s])).node), .int .i64 ((lastS (ts ++ [x.s])).phase), .int .i64 ((lastS (ts ++ [x.s])).pos), .int .i64 ((lastS (ts ++ [x.s])).start), .int .i64 ((lastS (ts ++ [x.s])).depth), .int .i64 ((lastS (ts ++ [x.s])).org), .slice Cx10 ((lastS (ts ++ [x.s])).caps.length) ex11], .row (.slice Ax6 ((tbytes G ev (ts ++ [x.s])).length) cx7) 5 1 ((tbytes G ev (ts ++ [x.s])).length) (u8s (tbytes G ev (ts ++ [x.s]))), .row (.slice Bx8 ((tstarts G ev (ts ++ [x.s])).length) dx9) 3 1 ((tstarts G ev (ts ++ [x.s])).length) (ints (tstarts G ev (ts ++ [x.s]))), .row (.slice Cx10 ((lastS (ts ++ [x.s])).caps.length) ex11) 3 1 ((lastS (ts ++ [x.s])).caps.length) (ints (lastS (ts ++ [x.s])).caps)] ++ [_, _, _, _, _, _, _]) rfl rfl))) ?_; rintro e_ w ⟨rfl, B_⟩; refine ⟨_, rfl, fun _ => B_, ?_⟩; clear E a; replace S := S.bel B_; intro a E
        clear B_
        refine Run.move rfl E rfl rfl rfl ?_; clear E a; intro a E
        refine Run.nei rfl E rfl rfl rfl rfl (decide_eq_false (by rw [tstarts_len, List.length_append, List.length_singleton]; omega)) ?_; clear E a; intro a E
        refine Run.pickF rfl E rfl rfl rfl rfl ?_; clear E a; intro a E
        refine Run.move rfl E rfl rfl rfl ?_; clear E a; intro a E
        refine Run.move rfl E rfl rfl rfl ?_; clear E a; intro a E
        refine Run.call (args := [.pointer (some ⟨g, 0, none⟩)]) rfl rfl E rfl rfl Try.func77 nm77 rfl rfl (tape_size (St.holdsL (A := [.obj g 128 [.int .i64 (G : Int), .int .i64 (ev : Int), .int .i64 lim, .slice Ax6 ((tbytes G ev (ts ++ [x.s])).length) cx7, .slice Bx8 ((tstarts G ev (ts ++ [x.s])).length) dx9, .int .i64 ((lastS (ts ++ [x.s])).kind), .int .i64 ((lastS (ts ++ [x.s])).node), .int .i64 ((lastS (ts ++ [x.s])).phase), .int .i64 ((lastS (ts ++ [x.s])).pos), .int .i64 ((lastS (ts ++ [x.s])).start), .int .i64 ((lastS (ts ++ [x.s])).depth), .int .i64 ((lastS (ts ++ [x.s])).org), .slice Cx10 ((lastS (ts ++ [x.s])).caps.length) ex11], .row (.slice Ax6 ((tbytes G ev (ts ++ [x.s])).length) cx7) 5 1 ((tbytes G ev (ts ++ [x.s])).length) (u8s (tbytes G ev (ts ++ [x.s]))), .row (.slice Bx8 ((tstarts G ev (ts ++ [x.s])).length) dx9) 3 1 ((tstarts G ev (ts ++ [x.s])).length) (ints (tstarts G ev (ts ++ [x.s]))), .row (.slice Cx10 ((lastS (ts ++ [x.s])).caps.length) ex11) 3 1 ((lastS (ts ++ [x.s])).caps.length) (ints (lastS (ts ++ [x.s])).caps)]) (R := [_, _, _, _, _, _, _]) (S.sel [4, 5, 6, 7, 0, 1, 2, 3, 8, 9, 10] ([.obj g 128 [.int .i64 (G : Int), .int .i64 (ev : Int), .int .i64 lim, .slice Ax6 ((tbytes G ev (ts ++ [x.s])).length) cx7, .slice Bx8 ((tstarts G ev (ts ++ [x.s])).length) dx9, .int .i64 ((lastS (ts ++ [x.s])).kind), .int .i64 ((lastS (ts ++ [x.s])).node), .int .i64 ((lastS (ts ++ [x.s])).phase), .int .i64 ((lastS (ts ++ [x.s])).pos), .int .i64 ((lastS (ts ++ [x.s])).start), .int .i64 ((lastS (ts ++ [x.s])).depth), .int .i64 ((lastS (ts ++ [x.s])).org), .slice Cx10 ((lastS (ts ++ [x.s])).caps.length) ex11], .row (.slice Ax6 ((tbytes G ev (ts ++ [x.s])).length) cx7) 5 1 ((tbytes G ev (ts ++ [x.s])).length) (u8s (tbytes G ev (ts ++ [x.s]))), .row (.slice Bx8 ((tstarts G ev (ts ++ [x.s])).length) dx9) 3 1 ((tstarts G ev (ts ++ [x.s])).length) (ints (tstarts G ev (ts ++ [x.s]))), .row (.slice Cx10 ((lastS (ts ++ [x.s])).caps.length) ex11) 3 1 ((lastS (ts ++ [x.s])).caps.length) (ints (lastS (ts ++ [x.s])).caps)] ++ [_, _, _, _, _, _, _]) rfl rfl))) ?_; rintro e_ w ⟨rfl, B_⟩; refine ⟨_, rfl, fun _ => B_, ?_⟩; clear E a; replace S := S.bel B_; intro a E
        clear B_
        refine Run.move rfl E rfl rfl rfl ?_; clear E a; intro a E
        refine Run.len rfl E rfl rfl rfl Try.underlying22 ?_; clear E a; intro a E
        refine Run.nei rfl E rfl rfl rfl rfl (decide_eq_false (fun h => h rfl)) ?_; clear E a; intro a E
        refine Run.pickF rfl E rfl rfl rfl rfl ?_; clear E a; intro a E
        refine Run.nil ?_
        refine then_n ?_
        refine cond_F E rfl ?_
        refine wp_skip ?_
        refine blk_n ?_
        refine then_n ?_
        refine region_plain (n := 2) [(0, .p), (1, .p)] rfl rfl ?_
        refine Run.add rfl E rfl rfl rfl rfl (i64_ok (by omega)) ?_; clear E a; intro a E
        refine Run.move rfl E rfl rfl rfl ?_; clear E a; intro a E
        refine Run.nil ?_
        refine then_n ?_
        replace E := E.setv 64 rfl (show Value.int .i64 ((i : Int) + 1) = .int .i64 ((i + 1 : Nat) : Int) from rfl)
        replace E := E.setv 8 rfl (show Value.int .i64 ((ts.length : Int) + 1) = .int .i64 ((ts ++ [x.s]).length : Int) by simp)
        have S : St _ _ _ [_, _, _, _, _, _, _, _, _, _, _] := S.sel [1, 3, 8, 4, 5, 6, 7, 2, 0, 9, 10] _ rfl rfl
        have S := S.drop1.drop1.drop1
        exact ⟨_, (by omega), (i + 1), Ax6, cx7, Bx8, dx9, Cx10, ex11, (ts ++ [x.s]), x.s, D18, e19, A16, c17, rfl, E.keeps [(2, _), (5, _), (7, _), (8, _), (9, _), (62, _), (63, _), (64, _)] ⟨rfl, rfl, rfl, rfl, rfl, rfl, rfl, rfl, trivial⟩, S, (by omega), (by rw [hts2, hT]), (wa_step ts x.s)⟩
    · skip
      replace E := E.setb 82 rfl (decide_eq_false hR)
      have hT : addT G ev lim ts x.s = ts := if_neg (fun h => hR h.1)
      have hE : addE G ev lim ts x.s = 11 := if_neg hR
      rw [hT] at S
      rw [hE] at E
      refine Run.not rfl E rfl rfl rfl rfl ?_; clear E a; intro a E
      refine Run.nil ?_
      refine then_n ?_
      refine cond_T E rfl ?_
      refine region_plain (n := 1) [(0, .p)] rfl rfl ?_
      refine Run.assign rfl E rfl rfl rfl ?_; clear E a; intro a E
      refine Run.nil ?_
      refine then_n ?_
      refine wp_seq ?_
      refine region_plain (n := 16) [(0, .p), (1, .p), (2, .p), (3, .p), (4, .p), (5, .e), (6, .p), (7, .p), (8, .p), (9, .p), (10, .p), (11, .e), (12, .p), (13, .p), (14, .p), (15, .p)] rfl rfl ?_
      refine Run.move rfl E rfl rfl rfl ?_; clear E a; intro a E
      refine Run.move rfl E rfl rfl rfl ?_; clear E a; intro a E
      refine Run.nei rfl E rfl rfl rfl rfl (b := false) (by decide) ?_; clear E a; intro a E
      refine Run.move rfl E rfl rfl rfl ?_; clear E a; intro a E
      refine Run.move rfl E rfl rfl rfl ?_; clear E a; intro a E
      refine Run.call (args := [.pointer (some ⟨g, 0, none⟩)]) rfl rfl E rfl rfl Try.func38 nm38 rfl rfl (tape_len (St.holdsL (A := [.obj g 128 [.int .i64 (G : Int), .int .i64 (ev : Int), .int .i64 lim, .slice Ax6 ((tbytes G ev ts).length) cx7, .slice Bx8 ((tstarts G ev ts).length) dx9, .int .i64 ((lastS ts).kind), .int .i64 ((lastS ts).node), .int .i64 ((lastS ts).phase), .int .i64 ((lastS ts).pos), .int .i64 ((lastS ts).start), .int .i64 ((lastS ts).depth), .int .i64 ((lastS ts).org), .slice Cx10 ((lastS ts).caps.length) ex11], .row (.slice Ax6 ((tbytes G ev ts).length) cx7) 5 1 ((tbytes G ev ts).length) (u8s (tbytes G ev ts)), .row (.slice Bx8 ((tstarts G ev ts).length) dx9) 3 1 ((tstarts G ev ts).length) (ints (tstarts G ev ts)), .row (.slice Cx10 ((lastS ts).caps.length) ex11) 3 1 ((lastS ts).caps.length) (ints (lastS ts).caps)]) (R := [_, _, _, _, _]) (S.sel [2, 3, 4, 5, 0, 1, 6, 7, 8] ([.obj g 128 [.int .i64 (G : Int), .int .i64 (ev : Int), .int .i64 lim, .slice Ax6 ((tbytes G ev ts).length) cx7, .slice Bx8 ((tstarts G ev ts).length) dx9, .int .i64 ((lastS ts).kind), .int .i64 ((lastS ts).node), .int .i64 ((lastS ts).phase), .int .i64 ((lastS ts).pos), .int .i64 ((lastS ts).start), .int .i64 ((lastS ts).depth), .int .i64 ((lastS ts).org), .slice Cx10 ((lastS ts).caps.length) ex11], .row (.slice Ax6 ((tbytes G ev ts).length) cx7) 5 1 ((tbytes G ev ts).length) (u8s (tbytes G ev ts)), .row (.slice Bx8 ((tstarts G ev ts).length) dx9) 3 1 ((tstarts G ev ts).length) (ints (tstarts G ev ts)), .row (.slice Cx10 ((lastS ts).caps.length) ex11) 3 1 ((lastS ts).caps.length) (ints (lastS ts).caps)] ++ [_, _, _, _, _]) rfl rfl))) ?_; rintro e_ w ⟨rfl, B_⟩; refine ⟨_, rfl, fun _ => B_, ?_⟩; clear E a; replace S := S.bel B_; intro a E
      clear B_
      refine Run.move rfl E rfl rfl rfl ?_; clear E a; intro a E
      refine Run.nei rfl E rfl rfl rfl rfl (decide_eq_false (by rw [tstarts_len]; omega)) ?_; clear E a; intro a E
      refine Run.pickF rfl E rfl rfl rfl rfl ?_; clear E a; intro a E
      refine Run.move rfl E rfl rfl rfl ?_; clear E a; intro a E
      refine Run.move rfl E rfl rfl rfl ?_; clear E a; intro a E
      refine Run.call (args := [.pointer (some ⟨g, 0, none⟩)]) rfl rfl E rfl rfl Try.func77 nm77 rfl rfl (tape_size (St.holdsL (A := [.obj g 128 [.int .i64 (G : Int), .int .i64 (ev : Int), .int .i64 lim, .slice Ax6 ((tbytes G ev ts).length) cx7, .slice Bx8 ((tstarts G ev ts).length) dx9, .int .i64 ((lastS ts).kind), .int .i64 ((lastS ts).node), .int .i64 ((lastS ts).phase), .int .i64 ((lastS ts).pos), .int .i64 ((lastS ts).start), .int .i64 ((lastS ts).depth), .int .i64 ((lastS ts).org), .slice Cx10 ((lastS ts).caps.length) ex11], .row (.slice Ax6 ((tbytes G ev ts).length) cx7) 5 1 ((tbytes G ev ts).length) (u8s (tbytes G ev ts)), .row (.slice Bx8 ((tstarts G ev ts).length) dx9) 3 1 ((tstarts G ev ts).length) (ints (tstarts G ev ts)), .row (.slice Cx10 ((lastS ts).caps.length) ex11) 3 1 ((lastS ts).caps.length) (ints (lastS ts).caps)]) (R := [_, _, _, _, _]) (S.sel [2, 3, 4, 5, 0, 1, 6, 7, 8] ([.obj g 128 [.int .i64 (G : Int), .int .i64 (ev : Int), .int .i64 lim, .slice Ax6 ((tbytes G ev ts).length) cx7, .slice Bx8 ((tstarts G ev ts).length) dx9, .int .i64 ((lastS ts).kind), .int .i64 ((lastS ts).node), .int .i64 ((lastS ts).phase), .int .i64 ((lastS ts).pos), .int .i64 ((lastS ts).start), .int .i64 ((lastS ts).depth), .int .i64 ((lastS ts).org), .slice Cx10 ((lastS ts).caps.length) ex11], .row (.slice Ax6 ((tbytes G ev ts).length) cx7) 5 1 ((tbytes G ev ts).length) (u8s (tbytes G ev ts)), .row (.slice Bx8 ((tstarts G ev ts).length) dx9) 3 1 ((tstarts G ev ts).length) (ints (tstarts G ev ts)), .row (.slice Cx10 ((lastS ts).caps.length) ex11) 3 1 ((lastS ts).caps.length) (ints (lastS ts).caps)] ++ [_, _, _, _, _]) rfl rfl))) ?_; rintro e_ w ⟨rfl, B_⟩; refine ⟨_, rfl, fun _ => B_, ?_⟩; clear E a; replace S := S.bel B_; intro a E
      clear B_
      refine Run.move rfl E rfl rfl rfl ?_; clear E a; intro a E
      refine Run.len rfl E rfl rfl rfl Try.underlying22 ?_; clear E a; intro a E
      refine Run.nei rfl E rfl rfl rfl rfl (decide_eq_false (fun h => h rfl)) ?_; clear E a; intro a E
      refine Run.pickF rfl E rfl rfl rfl rfl ?_; clear E a; intro a E
      refine Run.nil ?_
      refine then_n ?_
      refine cond_F E rfl ?_
      refine wp_skip ?_
      refine blk_n ?_
      refine then_n ?_
      refine region_plain (n := 2) [(0, .p), (1, .p)] rfl rfl ?_
      refine Run.add rfl E rfl rfl rfl rfl (i64_ok (by omega)) ?_; clear E a; intro a E
      refine Run.move rfl E rfl rfl rfl ?_; clear E a; intro a E
      refine Run.nil ?_
      refine then_n ?_
      replace E := E.setv 64 rfl (show Value.int .i64 ((i : Int) + 1) = .int .i64 ((i + 1 : Nat) : Int) from rfl)
      have S : St _ _ _ [_, _, _, _, _, _, _, _, _] := S.sel [6, 2, 3, 4, 5, 0, 1, 7, 8] _ rfl rfl
      have S := S.drop1
      exact ⟨_, (by omega), (i + 1), Ax6, cx7, Bx8, dx9, Cx10, ex11, ts, pw, W1, q1, BY, cy, rfl, E.keeps [(2, _), (5, _), (7, _), (8, _), (9, _), (62, _), (63, _), (64, _)] ⟨rfl, rfl, rfl, rfl, rfl, rfl, rfl, rfl, trivial⟩, S, (by omega), (by rw [hts2, hT]), (.inr hpw)⟩
  · skip
    have hok : TapeOK G ev ts := by rw [hts]; exact takes_ok _ hG he0 he1 _
    have hlim : ((tbytes G ev ts).length : Int) ≤ lim := by rw [hts]; exact takes_lim hl0 _
    refine Run.lss rfl E rfl rfl rfl rfl (decide_eq_false (by omega)) ?_; clear E a; intro a E
    refine Run.nil ?_
    refine then_n ?_
    refine wp_seq ?_
    refine cond_F E rfl ?_
    refine wp_exit ?_
    refine then_x ?_
    refine then_x ?_
    refine blk_x ?_
    refine then_n ?_
    refine wp_seq ?_
    refine region_drawS (n := 7) [(0, .p), (3, .p), (4, .t), (1, .e), (2, .t), (5, .p), (6, .p)] [0, 1, 3, 0, 8, 31, 63] S mixed rfl rfl (by kernel_rfl) (fun _ _ _ _ _ h => h) ?_; clear S; intro w S B_; clear B_
    refine Run.move rfl E rfl rfl rfl ?_; clear E a; intro a E
    refine Run.move rfl E rfl rfl rfl ?_; clear E a; intro a E
    refine Run.toStr (l := (tbytes G ev ts)) rfl rfl E rfl rfl rfl (S.rd 6 rfl) rfl Try.underlying22 Try.underlying5 Try.underlying9 ?_; clear E a; intro a E
    refine Run.call (args := [.pointer (some ⟨g, 0, none⟩)]) rfl rfl E rfl rfl Try.func72 nm72 rfl rfl (tape_bytes (St.holdsL (A := [.obj g 128 [.int .i64 (G : Int), .int .i64 (ev : Int), .int .i64 lim, .slice A ((tbytes G ev ts).length) c, .slice B ((tstarts G ev ts).length) d, .int .i64 ((lastS ts).kind), .int .i64 ((lastS ts).node), .int .i64 ((lastS ts).phase), .int .i64 ((lastS ts).pos), .int .i64 ((lastS ts).start), .int .i64 ((lastS ts).depth), .int .i64 ((lastS ts).org), .slice C ((lastS ts).caps.length) e], .row (.slice A ((tbytes G ev ts).length) c) 5 1 ((tbytes G ev ts).length) (u8s (tbytes G ev ts)), .row (.slice B ((tstarts G ev ts).length) d) 3 1 ((tstarts G ev ts).length) (ints (tstarts G ev ts)), .row (.slice C ((lastS ts).caps.length) e) 3 1 ((lastS ts).caps.length) (ints (lastS ts).caps)]) (R := [_, _, _, _]) (S.sel [0, 1, 2, 3, 4, 5, 6, 7] ([.obj g 128 [.int .i64 (G : Int), .int .i64 (ev : Int), .int .i64 lim, .slice A ((tbytes G ev ts).length) c, .slice B ((tstarts G ev ts).length) d, .int .i64 ((lastS ts).kind), .int .i64 ((lastS ts).node), .int .i64 ((lastS ts).phase), .int .i64 ((lastS ts).pos), .int .i64 ((lastS ts).start), .int .i64 ((lastS ts).depth), .int .i64 ((lastS ts).org), .slice C ((lastS ts).caps.length) e], .row (.slice A ((tbytes G ev ts).length) c) 5 1 ((tbytes G ev ts).length) (u8s (tbytes G ev ts)), .row (.slice B ((tstarts G ev ts).length) d) 3 1 ((tstarts G ev ts).length) (ints (tstarts G ev ts)), .row (.slice C ((lastS ts).caps.length) e) 3 1 ((lastS ts).caps.length) (ints (lastS ts).caps)] ++ [_, _, _, _]) rfl rfl)) (by omega)) ?_; rintro e_ w ⟨D20, e21, rfl, S_⟩; refine ⟨_, rfl, (fun _ => S_.belT), ?_⟩; clear E a; intro a E
    replace S : St _ _ _ [_, .obj _ _ [_, _, _, _, _, _, _, _, _, _, _, _, _], _, _, _, .obj _ _ [_, _, _, _, _, _, _, _], _, _, .obj _ _ [_, _, _]] := St.call (A := []) (R := [_, _, _, _, _, _, _, _]) S S_; clear S_
    refine Run.toStr (l := (tbytes G ev ts)) rfl rfl E rfl rfl rfl (S.rd 0 rfl) rfl Try.underlying22 Try.underlying5 Try.underlying9 ?_; clear E a; intro a E
    refine Run.eqs (b := true) rfl E rfl rfl rfl rfl (by simp) ?_; clear E a; intro a E
    refine Run.assign rfl E rfl rfl rfl ?_; clear E a; intro a E
    refine Run.nil ?_
    refine then_n ?_
    refine wp_ret ?_
    exact ret1 E Try.results18 rfl ⟨rfl, S.belT⟩

theorem tapePlays_walk (hL : Rd w0 L l.length 8 (stams l)) (hL2 : ∀ x ∈ l, x.ok w0) : Calls Try.prog 18 [.agg #[.int .i64 gr, .int .i64 ev0, .int .i64 lim], .slice L l.length cL].toArray w0 (fun r w' => r = .returned (.bool true) ∧ Bel w0 w') := by
  by_cases hn : (0 ≤ gr ∧ gr ≤ 99) ∧ (1 ≤ ev0 ∧ ev0 ≤ 1024) ∧ (0 ≤ lim ∧ lim ≤ 16777216)
  · obtain ⟨⟨h1, h2⟩, ⟨h3, h4⟩, h5, h6⟩ := hn
    obtain ⟨G, rfl⟩ : ∃ G : Nat, gr = (G : Int) := ⟨gr.toNat, by omega⟩
    obtain ⟨ev, rfl⟩ : ∃ ev : Nat, ev0 = (ev : Int) := ⟨ev0.toNat, by omega⟩
    by_cases hll : (100 : Int) < (l.length : Int)
    · exact tplays_long (by omega) (by omega) (by omega) h5 h6 hll
    · exact tplays_ok (by omega) (by omega) (by omega) h5 h6 hL hL2 (by omega)
  · exact tplays_bad hn

end
end Go.Proofs.Ytlcglefbhlhcpaa.K
