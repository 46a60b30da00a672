/- States: Equal, Clone, Own, Same, Blank, Name; the example of chapter 14. -/
import Derived.Test.YtlcglefbhlhcpaaKg
import Derived.Test.YtlcglefbhlhcpaaEvP
namespace Go.Proofs.Ytlcglefbhlhcpaa.K
open Go.RowKit
set_option linter.unusedVariables false
set_option maxRecDepth 100000
set_option maxHeartbeats 2000000

section
variable {w0 : World} {A B : Option Addr} {c d : Nat} {l m : List Int} {s t : Sta}

theorem equal_walk (H1 : Rd w0 A l.length 1 (ints l)) (H2 : Rd w0 B m.length 1 (ints m)) (hl : l.length ≤ 140737488355328) : Calls Try.prog 90 [.slice A l.length c, .slice B m.length d].toArray w0 (fun r w' => r = .returned (.bool (decide (l = m))) ∧ Bel w0 w') := by
  have S := St.nil [] w0
  refine fn_start Try.func90 rfl 26 rfl rfl [(0, _), (1, _)] ⟨rfl, rfl, trivial⟩ ?_; intro a E
  refine wp_seq ?_
  refine region_plain (n := 1) [(0, .p)] rfl rfl ?_
  refine Run.assign rfl E rfl rfl rfl ?_; clear E a; intro a E
  refine Run.nil ?_
  refine then_n ?_
  refine wp_seq ?_
  refine wp_seq ?_
  refine region_plain (n := 5) [(0, .p), (1, .p), (2, .p), (3, .p), (4, .p)] rfl rfl ?_
  refine Run.move rfl E rfl rfl rfl ?_; clear E a; intro a E
  refine Run.len rfl E rfl rfl rfl Try.underlying32 ?_; clear E a; intro a E
  refine Run.move rfl E rfl rfl rfl ?_; clear E a; intro a E
  refine Run.len rfl E rfl rfl rfl Try.underlying32 ?_; clear E a; intro a E
  by_cases hn : l.length = m.length
  · skip
    refine Run.nei rfl E rfl rfl rfl rfl (decide_eq_false (fun h => h (by rw [hn]))) ?_; clear E a; intro a E
    refine Run.nil ?_
    refine then_n ?_
    refine cond_F E rfl ?_
    refine wp_skip ?_
    refine then_n ?_
    refine wp_seq ?_
    refine wp_seq ?_
    refine region_plain (n := 3) [(0, .p), (1, .p), (2, .p)] rfl rfl ?_
    refine Run.move rfl E rfl rfl rfl ?_; clear E a; intro a E
    refine Run.len rfl E rfl rfl rfl Try.underlying32 ?_; clear E a; intro a E
    refine Run.move rfl E rfl rfl rfl ?_; clear E a; intro a E
    refine Run.nil ?_
    refine then_n ?_
    refine wp_block ?_
    refine wp_loop_ghost (fun n a w => ∃ i : Nat, l.length - i = n ∧ Env 26 [(0, .slice A l.length c), (1, .slice B m.length d), (12, .int .i64 (l.length : Int)), (13, .int .i64 (i : Int))] a ∧ St _ _ w [] ∧ (∀ j, j < i → l[j]? = m[j]?)) _ ⟨0, rfl, E.keeps [(0, _), (1, _), (12, _), (13, _)] ⟨rfl, rfl, rfl, rfl, trivial⟩, S, fun j hj => absurd hj (Nat.not_lt_zero j)⟩ ?_
    clear E a S
    rintro n_ a w ⟨i, rfl, E, S, hp⟩
    refine wp_seq ?_
    refine region_plain (n := 1) [(0, .p)] rfl rfl ?_
    by_cases hlt : i < l.length
    · skip
      obtain ⟨bA, oA, rfl, hA⟩ := H1.place (by omega)
      obtain ⟨bB, oB, rfl, hB⟩ := H2.place (by omega)
      refine Run.lss rfl E rfl rfl rfl rfl (decide_eq_true (by omega)) ?_; clear E a; intro a E
      refine Run.nil ?_
      refine then_n ?_
      refine wp_seq ?_
      refine cond_T E rfl ?_
      refine wp_skip ?_
      refine then_n ?_
      refine wp_seq ?_
      refine wp_block ?_
      refine wp_seq ?_
      refine region_plain (n := 2) [(0, .p), (1, .p)] rfl rfl ?_
      refine Run.move rfl E rfl rfl rfl ?_; clear E a; intro a E
      refine Run.assign rfl E rfl rfl rfl ?_; clear E a; intro a E
      refine Run.nil ?_
      refine then_n ?_
      refine wp_seq ?_
      refine region_drawS (n := 9) [(0, .p), (1, .p), (2, .p), (4, .p), (5, .p), (6, .p), (3, .t), (7, .t), (8, .p)] [0, 0, 3, 7, 0, 0, 48, 112, 255] S mixed rfl rfl (by kernel_rfl) (fun _ _ _ _ _ h => h) ?_; clear S; intro w S B_; clear B_
      refine Run.move rfl E rfl rfl rfl ?_; clear E a; intro a E
      refine Run.move rfl E rfl rfl rfl ?_; clear E a; intro a E
      refine Run.indexAddr rfl E rfl rfl rfl rfl Try.underlying32 sz3 (by omega) (ix_at1 (m' := i) (by omega)) ?_; clear E a; intro a E
      refine Run.move rfl E rfl rfl rfl ?_; clear E a; intro a E
      refine Run.move rfl E rfl rfl rfl ?_; clear E a; intro a E
      refine Run.indexAddr rfl E rfl rfl rfl rfl Try.underlying32 sz3 (by omega) (ix_at1 (m' := i) (by omega)) ?_; clear E a; intro a E
      refine Run.load1 rfl rfl E S rfl rfl rfl one3 (fun _ s => rdAt1 hA s (ints_get' (List.getElem?_eq_getElem hlt))) ?_; clear E a; intro a E
      refine Run.load1 rfl rfl E S rfl rfl rfl one3 (fun _ s => rdAt1 hB s (ints_get' ((List.getElem?_eq_getElem (by omega) : m[i]? = some (m[i]'(by omega)))))) ?_; clear E a; intro a E
      by_cases hne : l[i] ≠ m[i]
      · skip
        refine Run.nei rfl E rfl rfl rfl rfl (decide_eq_true (by omega)) ?_; clear E a; intro a E
        refine Run.nil ?_
        refine then_n ?_
        refine cond_T E rfl ?_
        refine wp_seq ?_
        refine region_plain (n := 1) [(0, .p)] rfl rfl ?_
        refine Run.assign rfl E rfl rfl rfl ?_; clear E a; intro a E
        refine Run.nil ?_
        refine then_n ?_
        refine wp_ret ?_
        refine blk_r ?_
        refine then_r ?_
        refine then_r ?_
        refine blk_r ?_
        refine then_r ?_
        exact ret1 E Try.results90 rfl ⟨by rw [decide_eq_false (fun e => hne (by subst e; rfl))], S.belT⟩
      · skip
        refine Run.nei rfl E rfl rfl rfl rfl (decide_eq_false (by omega)) ?_; clear E a; intro a E
        refine Run.nil ?_
        refine then_n ?_
        refine cond_F E rfl ?_
        refine wp_skip ?_
        refine blk_n ?_
        refine then_n ?_
        refine region_plain (n := 2) [(0, .p), (1, .p)] rfl rfl ?_
        refine Run.add rfl E rfl rfl rfl rfl (i64_ok (by omega)) ?_; clear E a; intro a E
        refine Run.move rfl E rfl rfl rfl ?_; clear E a; intro a E
        refine Run.nil ?_
        refine then_n ?_
        replace E := E.setv 13 rfl (show Value.int .i64 ((i : Int) + 1) = .int .i64 ((i + 1 : Nat) : Int) from rfl)
        exact ⟨_, (by omega), (i + 1), rfl, E.keeps [(0, _), (1, _), (12, _), (13, _)] ⟨rfl, rfl, rfl, rfl, trivial⟩, S, eq_step hp (by rw [List.getElem?_eq_getElem hlt, List.getElem?_eq_getElem (by omega)]; exact congrArg some (Decidable.of_not_not hne))⟩
    · skip
      refine Run.lss rfl E rfl rfl rfl rfl (decide_eq_false (by omega)) ?_; clear E a; intro a E
      refine Run.nil ?_
      refine then_n ?_
      refine wp_seq ?_
      refine cond_F E rfl ?_
      refine wp_exit ?_
      refine then_x ?_
      refine then_x ?_
      refine blk_x ?_
      refine then_n ?_
      refine wp_seq ?_
      refine region_plain (n := 1) [(0, .p)] rfl rfl ?_
      refine Run.assign rfl E rfl rfl rfl ?_; clear E a; intro a E
      refine Run.nil ?_
      refine then_n ?_
      refine wp_ret ?_
      exact ret1 E Try.results90 rfl ⟨by rw [decide_eq_true (list_eq_of hn (by omega) hp)], S.belT⟩
  · skip
    refine Run.nei rfl E rfl rfl rfl rfl (decide_eq_true (fun h => hn (by omega))) ?_; clear E a; intro a E
    refine Run.nil ?_
    refine then_n ?_
    refine cond_T E rfl ?_
    refine wp_seq ?_
    refine region_plain (n := 1) [(0, .p)] rfl rfl ?_
    refine Run.assign rfl E rfl rfl rfl ?_; clear E a; intro a E
    refine Run.nil ?_
    refine then_n ?_
    refine wp_ret ?_
    refine then_r ?_
    exact ret1 E Try.results90 rfl ⟨by rw [decide_eq_false (fun e => hn (by rw [e]))], S.belT⟩

theorem clone_nil : Calls Try.prog 92 [.slice none 0 c].toArray w0 (fun r w' => ∃ B d, r = .returned (.slice B 0 d) ∧ St [] w0 w' [.row (.slice B 0 d) 3 1 0 []]) := by
  have S := St.nil [] w0
  refine fn_start Try.func92 rfl 8 rfl rfl [(0, _)] ⟨rfl, trivial⟩ ?_; intro a E
  refine wp_seq ?_
  refine region_plain (n := 1) [(0, .p)] rfl rfl ?_
  refine Run.assign rfl E rfl rfl rfl ?_; clear E a; intro a E
  refine Run.nil ?_
  refine then_n ?_
  refine wp_seq ?_
  refine wp_seq ?_
  refine region_plain (n := 2) [(0, .p), (1, .p)] rfl rfl ?_
  refine Run.move rfl E rfl rfl rfl ?_; clear E a; intro a E
  refine Run.sliceNil (b := true) rfl E rfl rfl rfl Try.underlying32 rfl ?_; clear E a; intro a E
  refine Run.nil ?_
  refine then_n ?_
  refine cond_T E rfl ?_
  refine wp_seq ?_
  refine region_plain (n := 1) [(0, .p)] rfl rfl ?_
  refine Run.assign rfl E rfl rfl rfl ?_; clear E a; intro a E
  refine Run.nil ?_
  refine then_n ?_
  refine wp_ret ?_
  refine then_r ?_
  exact ret1 E Try.results92 rfl ⟨none, 0, rfl, S.addNil 3 1⟩

theorem clone_some {A : Addr} (H1 : Rd w0 (some A) l.length 1 (ints l)) (hl : l.length * 8 ≤ 140737488355328) : Calls Try.prog 92 [.slice (some A) l.length c].toArray w0 (fun r w' => ∃ B d, r = .returned (.slice B l.length d) ∧ St [] w0 w' [.row (.slice B l.length d) 3 1 l.length (ints l)]) := by
  have S := St.nil [] w0
  refine fn_start Try.func92 rfl 8 rfl rfl [(0, _)] ⟨rfl, trivial⟩ ?_; intro a E
  refine wp_seq ?_
  refine region_plain (n := 1) [(0, .p)] rfl rfl ?_
  refine Run.assign rfl E rfl rfl rfl ?_; clear E a; intro a E
  refine Run.nil ?_
  refine then_n ?_
  refine wp_seq ?_
  refine wp_seq ?_
  refine region_plain (n := 2) [(0, .p), (1, .p)] rfl rfl ?_
  refine Run.move rfl E rfl rfl rfl ?_; clear E a; intro a E
  refine Run.sliceNil (b := false) rfl E rfl rfl rfl Try.underlying32 rfl ?_; clear E a; intro a E
  refine Run.nil ?_
  refine then_n ?_
  refine cond_F E rfl ?_
  refine wp_skip ?_
  refine then_n ?_
  refine wp_seq ?_
  refine region_plain (n := 4) [(0, .e), (1, .p), (2, .l), (3, .p)] rfl rfl ?_
  refine Run.buildSlice (cs := []) [] rfl rfl E S rfl rfl rfl Try.underlying32 (by kernel_rfl) ?_; clear E a S; intro b1 w a E S B_; clear B_
  refine Run.move rfl E rfl rfl rfl ?_; clear E a; intro a E
  replace S : St _ _ _ [_] := S.objRow (sz := 1) (n := 0) 0 rfl rfl (Nat.zero_le _) rfl
  refine Run.appendE (news := ints l) 0 rfl rfl E S rfl rfl rfl rfl rfl Try.underlying32 I3 rfl rfl (H1.bel S.belT) (ints_one _) (by omega) (by omega) ?_; clear E a S; intro A2 c3 w a E S B_; clear B_
  replace S : St _ _ _ [_] := S
  refine Run.assign rfl E rfl rfl rfl ?_; clear E a; intro a E
  refine Run.nil ?_
  refine then_n ?_
  refine wp_ret ?_
  exact ret1 E Try.results92 rfl ⟨A2, c3, rfl, S⟩

theorem clone_walk (H1 : Rd w0 A l.length 1 (ints l)) (hl : l.length * 8 ≤ 140737488355328) : Calls Try.prog 92 [.slice A l.length c].toArray w0 (fun r w' => ∃ B d, r = .returned (.slice B l.length d) ∧ St [] w0 w' [.row (.slice B l.length d) 3 1 l.length (ints l)]) := by
  cases A with
  | some A => exact clone_some H1 hl
  | none =>
    have h0 : l = [] := by
      by_cases h : 0 < l.length
      · obtain ⟨b, o, e, _⟩ := H1.place h; cases e
      · exact List.eq_nil_of_length_eq_zero (by omega)
    subst h0
    exact clone_nil

theorem own_walk (H1 : Rd w0 A s.caps.length 1 (ints s.caps)) (hl : s.caps.length * 8 ≤ 140737488355328) : Calls Try.prog 44 [.agg #[.int .i64 s.kind, .int .i64 s.node, .int .i64 s.phase, .int .i64 s.pos, .int .i64 s.start, .int .i64 s.depth, .int .i64 s.org, .slice A s.caps.length c]].toArray w0 (fun r w' => ∃ B d, r = .returned (.agg #[.int .i64 s.kind, .int .i64 s.node, .int .i64 s.phase, .int .i64 s.pos, .int .i64 s.start, .int .i64 s.depth, .int .i64 s.org, .slice B s.caps.length d]) ∧ St [] w0 w' [.row (.slice B s.caps.length d) 3 1 s.caps.length (ints s.caps)]) := by
  have S := St.nil [] w0
  refine fn_start Try.func44 rfl 8 rfl rfl [(0, _)] ⟨rfl, trivial⟩ ?_; intro a E
  refine wp_seq ?_
  refine region_plain (n := 2) [(0, .e), (1, .e)] rfl rfl ?_
  refine Run.box (cs := [.int .i64 s.kind, .int .i64 s.node, .int .i64 s.phase, .int .i64 s.pos, .int .i64 s.start, .int .i64 s.depth, .int .i64 s.org, .slice A s.caps.length c]) rfl rfl E S rfl rfl rfl rfl ?_; clear E a S; intro b1 w a E S B_; clear B_
  refine Run.alloc rfl rfl E S rfl rfl z34 rfl ?_; clear E a S; intro b2 w a E S B_; clear B_
  refine Run.nil ?_
  refine then_n ?_
  refine wp_seq ?_
  refine region_plain (n := 5) [(0, .p), (1, .l), (2, .e), (3, .p), (4, .l)] rfl rfl ?_
  refine Run.fieldAddr rfl E rfl rfl rfl fo34_7 (rfl) ?_; clear E a; intro a E
  refine Run.load1 rfl rfl E S rfl rfl rfl one32 (fun _ s => s.objCell 1 7 rfl rfl) ?_; clear E a; intro a E
  refine Run.call (args := [.slice A s.caps.length c]) rfl rfl E rfl rfl Try.func92 nm92 rfl rfl (clone_walk (l := s.caps) (H1.bel S.belT) (hl)) ?_; rintro e_ w ⟨B3, d4, rfl, S_⟩; refine ⟨_, rfl, (fun _ => S_.belT), ?_⟩; clear E a; intro a E
  replace S : St _ _ _ [_, .obj _ _ [_, _, _, _, _, _, _, _], .obj _ _ [_, _, _, _, _, _, _, _]] := St.call (A := []) (R := [_, _]) S S_; clear S_
  refine Run.fieldAddr rfl E rfl rfl rfl fo34_7 (rfl) ?_; clear E a; intro a E
  refine Run.store (news := [.slice B3 s.caps.length d4]) (cs' := [_, _, _, _, _, _, _, _]) (hp' := [_, _, _]) 2 rfl E S rfl rfl rfl rfl rfl sz32 rfl rfl rfl rfl ?_; clear S; intro w S
  refine Run.nil ?_
  refine then_n ?_
  refine wp_seq ?_
  refine region_plain (n := 2) [(0, .l), (1, .l)] rfl rfl ?_
  refine Run.loadN (cs := [.int .i64 s.kind, .int .i64 s.node, .int .i64 s.phase, .int .i64 s.pos, .int .i64 s.start, .int .i64 s.depth, .int .i64 s.org, .slice B3 s.caps.length d4]) rfl rfl E S rfl rfl rfl ag34 rfl (fun _ s => objAll s 2 rfl) ?_; clear E a; intro a E
  refine Run.store (news := [.int .i64 s.kind, .int .i64 s.node, .int .i64 s.phase, .int .i64 s.pos, .int .i64 s.start, .int .i64 s.depth, .int .i64 s.org, .slice B3 s.caps.length d4]) (cs' := [_, _, _, _, _, _, _, _]) (hp' := [_, _, _]) 1 rfl E S rfl rfl rfl rfl rfl sz34 rfl rfl rfl rfl ?_; clear S; intro w S
  refine Run.nil ?_
  refine then_n ?_
  refine wp_ret ?_
  refine retN E (vs := [.agg #[.int .i64 s.kind, .int .i64 s.node, .int .i64 s.phase, .int .i64 s.pos, .int .i64 s.start, .int .i64 s.depth, .int .i64 s.org, .slice B3 s.caps.length d4]]) Try.results44 (.cell (E.slot _ _ rfl) (run_loadVarAgg ag34 rfl (objAll S 1 rfl)) .nil) rfl ⟨B3, d4, rfl, ?_⟩
  have S : St _ _ _ [_, _, _] := S.sel [1, 2, 0] _ rfl rfl
  have S := S.drop1.drop1
  exact S

theorem same_walk (H1 : Rd w0 A s.caps.length 1 (ints s.caps)) (H2 : Rd w0 B t.caps.length 1 (ints t.caps)) (hl : s.caps.length ≤ 140737488355328) : Calls Try.prog 42 [.agg #[.int .i64 s.kind, .int .i64 s.node, .int .i64 s.phase, .int .i64 s.pos, .int .i64 s.start, .int .i64 s.depth, .int .i64 s.org, .slice A s.caps.length c], .agg #[.int .i64 t.kind, .int .i64 t.node, .int .i64 t.phase, .int .i64 t.pos, .int .i64 t.start, .int .i64 t.depth, .int .i64 t.org, .slice B t.caps.length d]].toArray w0 (fun r w' => r = .returned (.bool (decide (s = t))) ∧ Bel w0 w') := by
  have S := St.nil [] w0
  refine fn_start Try.func42 rfl 45 rfl rfl [(0, _), (1, _)] ⟨rfl, rfl, trivial⟩ ?_; intro a E
  refine wp_seq ?_
  refine region_plain (n := 3) [(0, .e), (1, .e), (2, .p)] rfl rfl ?_
  refine Run.box (cs := [.int .i64 s.kind, .int .i64 s.node, .int .i64 s.phase, .int .i64 s.pos, .int .i64 s.start, .int .i64 s.depth, .int .i64 s.org, .slice A s.caps.length c]) rfl rfl E S rfl rfl rfl rfl ?_; clear E a S; intro b1 w a E S B_; clear B_
  refine Run.box (cs := [.int .i64 t.kind, .int .i64 t.node, .int .i64 t.phase, .int .i64 t.pos, .int .i64 t.start, .int .i64 t.depth, .int .i64 t.org, .slice B t.caps.length d]) rfl rfl E S rfl rfl rfl rfl ?_; clear E a S; intro b2 w a E S B_; clear B_
  refine Run.assign rfl E rfl rfl rfl ?_; clear E a; intro a E
  refine Run.nil ?_
  refine then_n ?_
  refine wp_seq ?_
  refine region_plain (n := 32) [(0, .p), (1, .l), (2, .p), (3, .l), (4, .p), (5, .l), (6, .p), (7, .l), (8, .p), (9, .l), (10, .p), (11, .l), (12, .p), (13, .l), (14, .p), (15, .p), (16, .l), (17, .p), (18, .l), (19, .p), (20, .l), (21, .p), (22, .l), (23, .p), (24, .l), (25, .p), (26, .l), (27, .p), (28, .l), (29, .p), (30, .p), (31, .p)] rfl rfl ?_
  refine Run.fieldAddr rfl E rfl rfl rfl fo34_0 (rfl) ?_; clear E a; intro a E
  refine Run.load1 rfl rfl E S rfl rfl rfl one3 (fun _ s => s.objCell 1 0 rfl rfl) ?_; clear E a; intro a E
  refine Run.fieldAddr rfl E rfl rfl rfl fo34_1 (rfl) ?_; clear E a; intro a E
  refine Run.load1 rfl rfl E S rfl rfl rfl one3 (fun _ s => s.objCell 1 1 rfl rfl) ?_; clear E a; intro a E
  refine Run.fieldAddr rfl E rfl rfl rfl fo34_2 (rfl) ?_; clear E a; intro a E
  refine Run.load1 rfl rfl E S rfl rfl rfl one3 (fun _ s => s.objCell 1 2 rfl rfl) ?_; clear E a; intro a E
  refine Run.fieldAddr rfl E rfl rfl rfl fo34_3 (rfl) ?_; clear E a; intro a E
  refine Run.load1 rfl rfl E S rfl rfl rfl one3 (fun _ s => s.objCell 1 3 rfl rfl) ?_; clear E a; intro a E
  refine Run.fieldAddr rfl E rfl rfl rfl fo34_4 (rfl) ?_; clear E a; intro a E
  refine Run.load1 rfl rfl E S rfl rfl rfl one3 (fun _ s => s.objCell 1 4 rfl rfl) ?_; clear E a; intro a E
  refine Run.fieldAddr rfl E rfl rfl rfl fo34_5 (rfl) ?_; clear E a; intro a E
  refine Run.load1 rfl rfl E S rfl rfl rfl one3 (fun _ s => s.objCell 1 5 rfl rfl) ?_; clear E a; intro a E
  refine Run.fieldAddr rfl E rfl rfl rfl fo34_6 (rfl) ?_; clear E a; intro a E
  refine Run.load1 rfl rfl E S rfl rfl rfl one3 (fun _ s => s.objCell 1 6 rfl rfl) ?_; clear E a; intro a E
  refine Run.build (cs := #[.int .i64 s.kind, .int .i64 s.node, .int .i64 s.phase, .int .i64 s.pos, .int .i64 s.start, .int .i64 s.depth, .int .i64 s.org]) [(0, .int .i64 s.kind), (1, .int .i64 s.node), (2, .int .i64 s.phase), (3, .int .i64 s.pos), (4, .int .i64 s.start), (5, .int .i64 s.depth), (6, .int .i64 s.org)] rfl E rfl rfl rfl (by kernel_rfl) ?_; clear E a; intro a E
  refine Run.fieldAddr rfl E rfl rfl rfl fo34_0 (rfl) ?_; clear E a; intro a E
  refine Run.load1 rfl rfl E S rfl rfl rfl one3 (fun _ s => s.objCell 0 0 rfl rfl) ?_; clear E a; intro a E
  refine Run.fieldAddr rfl E rfl rfl rfl fo34_1 (rfl) ?_; clear E a; intro a E
  refine Run.load1 rfl rfl E S rfl rfl rfl one3 (fun _ s => s.objCell 0 1 rfl rfl) ?_; clear E a; intro a E
  refine Run.fieldAddr rfl E rfl rfl rfl fo34_2 (rfl) ?_; clear E a; intro a E
  refine Run.load1 rfl rfl E S rfl rfl rfl one3 (fun _ s => s.objCell 0 2 rfl rfl) ?_; clear E a; intro a E
  refine Run.fieldAddr rfl E rfl rfl rfl fo34_3 (rfl) ?_; clear E a; intro a E
  refine Run.load1 rfl rfl E S rfl rfl rfl one3 (fun _ s => s.objCell 0 3 rfl rfl) ?_; clear E a; intro a E
  refine Run.fieldAddr rfl E rfl rfl rfl fo34_4 (rfl) ?_; clear E a; intro a E
  refine Run.load1 rfl rfl E S rfl rfl rfl one3 (fun _ s => s.objCell 0 4 rfl rfl) ?_; clear E a; intro a E
  refine Run.fieldAddr rfl E rfl rfl rfl fo34_5 (rfl) ?_; clear E a; intro a E
  refine Run.load1 rfl rfl E S rfl rfl rfl one3 (fun _ s => s.objCell 0 5 rfl rfl) ?_; clear E a; intro a E
  refine Run.fieldAddr rfl E rfl rfl rfl fo34_6 (rfl) ?_; clear E a; intro a E
  refine Run.load1 rfl rfl E S rfl rfl rfl one3 (fun _ s => s.objCell 0 6 rfl rfl) ?_; clear E a; intro a E
  refine Run.build (cs := #[.int .i64 t.kind, .int .i64 t.node, .int .i64 t.phase, .int .i64 t.pos, .int .i64 t.start, .int .i64 t.depth, .int .i64 t.org]) [(0, .int .i64 t.kind), (1, .int .i64 t.node), (2, .int .i64 t.phase), (3, .int .i64 t.pos), (4, .int .i64 t.start), (5, .int .i64 t.depth), (6, .int .i64 t.org)] rfl E rfl rfl rfl (by kernel_rfl) ?_; clear E a; intro a E
  by_cases hn : s.nums = t.nums
  · skip
    refine Run.bin (v := .bool true) rfl E rfl rfl rfl rfl (fun w => (run_eq91s _ _ s t w).trans (by rw [decide_eq_true hn])) ?_; clear E a; intro a E
    refine Run.assign rfl E rfl rfl rfl ?_; clear E a; intro a E
    refine Run.nil ?_
    refine then_n ?_
    refine wp_seq ?_
    refine region_plain (n := 9) [(0, .p), (1, .p), (2, .p), (3, .l), (4, .p), (5, .l), (6, .e), (7, .p), (8, .p)] rfl rfl ?_
    refine Run.move rfl E rfl rfl rfl ?_; clear E a; intro a E
    refine Run.move rfl E rfl rfl rfl ?_; clear E a; intro a E
    refine Run.fieldAddr rfl E rfl rfl rfl fo34_7 (rfl) ?_; clear E a; intro a E
    refine Run.load1 rfl rfl E S rfl rfl rfl one32 (fun _ s => s.objCell 1 7 rfl rfl) ?_; clear E a; intro a E
    refine Run.fieldAddr rfl E rfl rfl rfl fo34_7 (rfl) ?_; clear E a; intro a E
    refine Run.load1 rfl rfl E S rfl rfl rfl one32 (fun _ s => s.objCell 0 7 rfl rfl) ?_; clear E a; intro a E
    refine Run.call (args := [.slice A s.caps.length c, .slice B t.caps.length d]) rfl rfl E rfl rfl Try.func90 nm90 rfl rfl (equal_walk (l := s.caps) (m := t.caps) (H1.bel S.belT) (H2.bel S.belT) hl) ?_; rintro e_ w ⟨rfl, B_⟩; refine ⟨_, rfl, fun _ => B_, ?_⟩; clear E a; replace S := S.bel B_; intro a E
    clear B_
    refine Run.pickT rfl E rfl rfl rfl rfl ?_; clear E a; intro a E
    refine Run.assign rfl E rfl rfl rfl ?_; clear E a; intro a E
    refine Run.nil ?_
    refine then_n ?_
    refine wp_ret ?_
    exact ret1 E Try.results42 rfl ⟨congrArg (fun b => Ending.returned (.bool b)) (decide_eq_decide.2 ⟨fun h => (Sta.ext_iff' s t).2 ⟨hn, h⟩, fun h => ((Sta.ext_iff' s t).1 h).2⟩), S.belT⟩
  · skip
    refine Run.bin (v := .bool false) rfl E rfl rfl rfl rfl (fun w => (run_eq91s _ _ s t w).trans (by rw [decide_eq_false hn])) ?_; clear E a; intro a E
    refine Run.assign rfl E rfl rfl rfl ?_; clear E a; intro a E
    refine Run.nil ?_
    refine then_n ?_
    refine wp_seq ?_
    refine region_plain (n := 9) [(0, .p), (1, .p), (2, .p), (3, .l), (4, .p), (5, .l), (6, .e), (7, .p), (8, .p)] rfl rfl ?_
    refine Run.move rfl E rfl rfl rfl ?_; clear E a; intro a E
    refine Run.move rfl E rfl rfl rfl ?_; clear E a; intro a E
    refine Run.off rfl E rfl rfl ?_; clear E a; intro a E
    refine Run.off rfl E rfl rfl ?_; clear E a; intro a E
    refine Run.off rfl E rfl rfl ?_; clear E a; intro a E
    refine Run.off rfl E rfl rfl ?_; clear E a; intro a E
    refine Run.off rfl E rfl rfl ?_; clear E a; intro a E
    refine Run.pickF rfl E rfl rfl rfl rfl ?_; clear E a; intro a E
    refine Run.assign rfl E rfl rfl rfl ?_; clear E a; intro a E
    refine Run.nil ?_
    refine then_n ?_
    refine wp_ret ?_
    exact ret1 E Try.results42 rfl ⟨by rw [decide_eq_false (fun h => hn ((Sta.ext_iff' s t).1 h).1)], S.belT⟩

theorem blank_walk {g : Int} {k : Nat} (hk : (k : Int) = min (max g 0) 99) : Calls Try.prog 78 [.int .i64 g].toArray w0 (fun r w' => ∃ B d, r = .returned (.agg #[.int .i64 0, .int .i64 0, .int .i64 0, .int .i64 0, .int .i64 0, .int .i64 0, .int .i64 (-1), .slice B (2 * (k + 1)) d]) ∧ St [] w0 w' [.row (.slice B (2 * (k + 1)) d) 3 1 (2 * (k + 1)) (ints (List.replicate (2 * (k + 1)) (-1)))]) := by
  have S := St.nil [] w0
  refine fn_start Try.func78 rfl 19 rfl rfl [(0, _)] ⟨rfl, trivial⟩ ?_; intro a E
  refine wp_seq ?_
  refine region_plain (n := 1) [(0, .e)] rfl rfl ?_
  refine Run.alloc rfl rfl E S rfl rfl z34 rfl ?_; clear E a S; intro b1 w a E S B_; clear B_
  refine Run.nil ?_
  refine then_n ?_
  refine wp_seq ?_
  refine region_plain (n := 3) [(0, .p), (1, .e), (2, .l)] rfl rfl ?_
  refine Run.build (cs := #[.int .i64 0, .int .i64 0, .int .i64 0, .int .i64 0, .int .i64 0, .int .i64 0, .int .i64 (-1), .slice none 0 0]) [(6, .int .i64 (-1))] rfl E rfl rfl rfl (by kernel_rfl) ?_; clear E a; intro a E
  refine Run.alloc rfl rfl E S rfl rfl z34 rfl ?_; clear E a S; intro b2 w a E S B_; clear B_
  refine Run.store (news := [.int .i64 0, .int .i64 0, .int .i64 0, .int .i64 0, .int .i64 0, .int .i64 0, .int .i64 (-1), .slice none 0 0]) (cs' := [_, _, _, _, _, _, _, _]) (hp' := [_, _]) 0 rfl E S rfl rfl rfl rfl rfl sz34 rfl rfl rfl rfl ?_; clear S; intro w S
  refine Run.nil ?_
  refine then_n ?_
  refine wp_seq ?_
  refine wp_seq ?_
  refine region_plain (n := 6) [(0, .p), (1, .p), (2, .p), (3, .p), (4, .p), (5, .p)] rfl rfl ?_
  refine Run.move rfl E rfl rfl rfl ?_; clear E a; intro a E
  refine Run.max rfl E rfl rfl rfl rfl (q := (max g 0)) (by split <;> omega) ?_; clear E a; intro a E
  refine Run.min rfl E rfl rfl rfl rfl (q := (k : Int)) (by rw [hk]; split <;> omega) ?_; clear E a; intro a E
  refine Run.add rfl E rfl rfl rfl rfl (i64_ok (by omega)) ?_; clear E a; intro a E
  refine Run.mul rfl E rfl rfl rfl rfl (i64_ok (by omega)) ?_; clear E a; intro a E
  refine Run.move rfl E rfl rfl rfl ?_; clear E a; intro a E
  refine Run.nil ?_
  refine then_n ?_
  refine wp_block ?_
  replace S := S.addNil 3 1
  refine wp_loop_ghost (fun n a w => ∃ i : Nat, ∃ B : Option Addr, ∃ e : Nat, 2 * (k + 1) - i = n ∧ Env 19 [(2, .pointer (some ⟨b1, 0, none⟩)), (3, .pointer (some ⟨b2, 0, none⟩)), (9, .int .i64 (2 * ((k : Int) + 1))), (10, .int .i64 (i : Int))] a ∧ St _ _ w [.row (.slice B i e) 3 1 i (ints (List.replicate i (-1))), .obj b2 34 [.int .i64 0, .int .i64 0, .int .i64 0, .int .i64 0, .int .i64 0, .int .i64 0, .int .i64 (-1), .slice B i e], .obj b1 34 [.int .i64 0, .int .i64 0, .int .i64 0, .int .i64 0, .int .i64 0, .int .i64 0, .int .i64 0, .slice none 0 0]] ∧ (i ≤ 2 * (k + 1))) _ ⟨0, none, 0, rfl, E.keeps [(2, _), (3, _), (9, _), (10, _)] ⟨rfl, rfl, rfl, rfl, trivial⟩, S, Nat.zero_le _⟩ ?_
  clear E a S
  rintro n_ a w ⟨i, B, e, rfl, E, S, hi⟩
  refine wp_seq ?_
  refine region_plain (n := 1) [(0, .p)] rfl rfl ?_
  by_cases hlt : i < 2 * (k + 1)
  · skip
    refine Run.lss rfl E rfl rfl rfl rfl (decide_eq_true (by omega)) ?_; clear E a; intro a E
    refine Run.nil ?_
    refine then_n ?_
    refine wp_seq ?_
    refine cond_T E rfl ?_
    refine wp_skip ?_
    refine then_n ?_
    refine wp_seq ?_
    refine wp_block ?_
    refine region_plain (n := 6) [(0, .p), (1, .l), (2, .e), (3, .l), (4, .p), (5, .l)] rfl rfl ?_
    refine Run.fieldAddr rfl E rfl rfl rfl fo34_7 (rfl) ?_; clear E a; intro a E
    refine Run.load1 rfl rfl E S rfl rfl rfl one32 (fun _ s => s.objCell 1 7 rfl rfl) ?_; clear E a; intro a E
    refine Run.buildSlice (cs := [.int .i64 (-1)]) [(0, .int .i64 (-1))] rfl rfl E S rfl rfl rfl Try.underlying32 (by kernel_rfl) ?_; clear E a S; intro b3 w a E S B_; clear B_
    refine Run.append (news := [.int .i64 (-1)]) (nm := i + 1) 1 rfl E S rfl rfl rfl rfl rfl Try.underlying32 I3 rfl rfl rfl (objNews S 0 rfl) (by simp [Value.oneCell']) (by omega) (by omega) (by omega) ?_; clear E a S; intro A4 c5 w a E S
    replace S : St _ _ _ [.obj _ _ [_], _, .obj _ _ [_, _, _, _, _, _, _, _], .obj _ _ [_, _, _, _, _, _, _, _]] := S
    refine Run.fieldAddr rfl E rfl rfl rfl fo34_7 (rfl) ?_; clear E a; intro a E
    refine Run.store (news := [.slice A4 (i + 1) c5]) (cs' := [_, _, _, _, _, _, _, _]) (hp' := [_, _, _, _]) 2 rfl E S rfl rfl rfl rfl rfl sz32 rfl rfl rfl rfl ?_; clear S; intro w S
    refine Run.nil ?_
    refine blk_n ?_
    refine then_n ?_
    refine region_plain (n := 2) [(0, .p), (1, .p)] rfl rfl ?_
    refine Run.add rfl E rfl rfl rfl rfl (i64_ok (by omega)) ?_; clear E a; intro a E
    refine Run.move rfl E rfl rfl rfl ?_; clear E a; intro a E
    refine Run.nil ?_
    refine then_n ?_
    replace E := E.setv 10 rfl (show Value.int .i64 ((i : Int) + 1) = .int .i64 ((i + 1 : Nat) : Int) from rfl)
    rw [ints_rep] at S
    have S : St _ _ _ [_, _, _, _] := S.sel [0, 1, 2, 3] _ rfl rfl
    have S := S.drop1
    exact ⟨_, (by omega), (i + 1), A4, c5, rfl, E.keeps [(2, _), (3, _), (9, _), (10, _)] ⟨rfl, rfl, rfl, rfl, trivial⟩, S, (by omega)⟩
  · skip
    refine Run.lss rfl E rfl rfl rfl rfl (decide_eq_false (by omega)) ?_; clear E a; intro a E
    refine Run.nil ?_
    refine then_n ?_
    refine wp_seq ?_
    refine cond_F E rfl ?_
    refine wp_exit ?_
    refine then_x ?_
    refine then_x ?_
    refine blk_x ?_
    refine then_n ?_
    refine wp_seq ?_
    refine region_plain (n := 2) [(0, .l), (1, .l)] rfl rfl ?_
    refine Run.loadN (cs := [.int .i64 0, .int .i64 0, .int .i64 0, .int .i64 0, .int .i64 0, .int .i64 0, .int .i64 (-1), .slice B i e]) rfl rfl E S rfl rfl rfl ag34 rfl (fun _ s => objAll s 1 rfl) ?_; clear E a; intro a E
    refine Run.store (news := [.int .i64 0, .int .i64 0, .int .i64 0, .int .i64 0, .int .i64 0, .int .i64 0, .int .i64 (-1), .slice B i e]) (cs' := [_, _, _, _, _, _, _, _]) (hp' := [_, _, _]) 2 rfl E S rfl rfl rfl rfl rfl sz34 rfl rfl rfl rfl ?_; clear S; intro w S
    refine Run.nil ?_
    refine then_n ?_
    refine wp_ret ?_
    obtain rfl : i = 2 * (k + 1) := by omega
    refine retN E (vs := [.agg #[.int .i64 0, .int .i64 0, .int .i64 0, .int .i64 0, .int .i64 0, .int .i64 0, .int .i64 (-1), .slice B (2 * (k + 1)) e]]) Try.results78 (.cell (E.slot _ _ rfl) (run_loadVarAgg ag34 rfl (objAll S 2 rfl)) .nil) rfl ⟨B, e, rfl, ?_⟩
    have S : St _ _ _ [_, _, _] := S.sel [1, 2, 0] _ rfl rfl
    have S := S.drop1.drop1
    exact S

theorem name7  : Calls Try.prog 91 [.int .i64 7].toArray w0 (fun r w' => r = .returned (.string ⟨#[97, 103, 97, 105, 110]⟩) ∧ Bel w0 w') := by
  have S := St.nil [] w0
  refine fn_start Try.func91 rfl 14 rfl rfl [(0, _)] ⟨rfl, trivial⟩ ?_; intro a E
  refine wp_seq ?_
  refine region_plain (n := 1) [(0, .p)] rfl rfl ?_
  refine Run.assign rfl E rfl rfl rfl ?_; clear E a; intro a E
  refine Run.nil ?_
  refine then_n ?_
  refine wp_seq ?_
  refine region_plain (n := 3) [(0, .p), (1, .e), (2, .l)] rfl rfl ?_
  refine Run.build (cs := #[.string ⟨#[]⟩, .string (⟨#[98, 101, 103, 105, 110]⟩), .string (⟨#[115, 116, 101, 112]⟩), .string (⟨#[109, 105, 115, 115]⟩), .string (⟨#[104, 101, 108, 100]⟩), .string (⟨#[116, 117, 114, 110]⟩), .string (⟨#[102, 111, 114, 107]⟩), .string (⟨#[97, 103, 97, 105, 110]⟩), .string (⟨#[111, 112, 101, 110]⟩), .string (⟨#[99, 108, 111, 115, 101]⟩), .string (⟨#[105, 110, 116, 111]⟩), .string (⟨#[111, 117, 116]⟩), .string (⟨#[100, 114, 111, 112]⟩), .string (⟨#[109, 97, 116, 99, 104]⟩), .string (⟨#[110, 111, 110, 101]⟩)]) [(1, .string (⟨#[98, 101, 103, 105, 110]⟩)), (2, .string (⟨#[115, 116, 101, 112]⟩)), (3, .string (⟨#[109, 105, 115, 115]⟩)), (4, .string (⟨#[104, 101, 108, 100]⟩)), (5, .string (⟨#[116, 117, 114, 110]⟩)), (6, .string (⟨#[102, 111, 114, 107]⟩)), (7, .string (⟨#[97, 103, 97, 105, 110]⟩)), (8, .string (⟨#[111, 112, 101, 110]⟩)), (9, .string (⟨#[99, 108, 111, 115, 101]⟩)), (10, .string (⟨#[105, 110, 116, 111]⟩)), (11, .string (⟨#[111, 117, 116]⟩)), (12, .string (⟨#[100, 114, 111, 112]⟩)), (13, .string (⟨#[109, 97, 116, 99, 104]⟩)), (14, .string (⟨#[110, 111, 110, 101]⟩))] rfl E rfl rfl rfl (by kernel_rfl) ?_; clear E a; intro a E
  refine Run.alloc rfl rfl E S rfl rfl z166 rfl ?_; clear E a S; intro b1 w a E S B_; clear B_
  refine Run.store (news := [.string ⟨#[]⟩, .string (⟨#[98, 101, 103, 105, 110]⟩), .string (⟨#[115, 116, 101, 112]⟩), .string (⟨#[109, 105, 115, 115]⟩), .string (⟨#[104, 101, 108, 100]⟩), .string (⟨#[116, 117, 114, 110]⟩), .string (⟨#[102, 111, 114, 107]⟩), .string (⟨#[97, 103, 97, 105, 110]⟩), .string (⟨#[111, 112, 101, 110]⟩), .string (⟨#[99, 108, 111, 115, 101]⟩), .string (⟨#[105, 110, 116, 111]⟩), .string (⟨#[111, 117, 116]⟩), .string (⟨#[100, 114, 111, 112]⟩), .string (⟨#[109, 97, 116, 99, 104]⟩), .string (⟨#[110, 111, 110, 101]⟩)]) (cs' := [_, _, _, _, _, _, _, _, _, _, _, _, _, _, _]) (hp' := [_]) 0 rfl E S rfl rfl rfl rfl rfl sz166 rfl rfl rfl rfl ?_; clear S; intro w S
  refine Run.nil ?_
  refine then_n ?_
  refine wp_seq ?_
  refine wp_seq ?_
  refine region_plain (n := 6) [(0, .p), (1, .p), (2, .p), (3, .p), (4, .p), (5, .p)] rfl rfl ?_
  refine Run.move rfl E rfl rfl rfl ?_; clear E a; intro a E
  refine Run.lss rfl E rfl rfl rfl rfl (b := false) (by decide) ?_; clear E a; intro a E
  refine Run.move rfl E rfl rfl rfl ?_; clear E a; intro a E
  refine Run.move rfl E rfl rfl rfl ?_; clear E a; intro a E
  refine Run.gtr rfl E rfl rfl rfl rfl (b := false) (by decide) ?_; clear E a; intro a E
  refine Run.pickF rfl E rfl rfl rfl rfl ?_; clear E a; intro a E
  refine Run.nil ?_
  refine then_n ?_
  refine cond_F E rfl ?_
  refine wp_skip ?_
  refine then_n ?_
  refine wp_seq ?_
  refine region_plain (n := 4) [(0, .p), (1, .p), (2, .l), (3, .p)] rfl rfl ?_
  refine Run.move rfl E rfl rfl rfl ?_; clear E a; intro a E
  refine Run.indexArr rfl E rfl rfl rfl rfl Try.underlying166 sz9 (by decide) (q := ⟨b1, 7, none⟩) rfl ?_; clear E a; intro a E
  refine Run.load1 rfl rfl E S rfl rfl rfl one9 (fun _ s => s.objCell 0 7 rfl rfl) ?_; clear E a; intro a E
  refine Run.assign rfl E rfl rfl rfl ?_; clear E a; intro a E
  refine Run.nil ?_
  refine then_n ?_
  refine wp_ret ?_
  exact ret1 E Try.results91 rfl ⟨rfl, S.belT⟩

theorem anchor14  : Calls Try.prog 43 [].toArray w0 (fun r w' => r = .returned (.bool true) ∧ Bel w0 w') := by
  have S := St.nil [] w0
  refine fn_start Try.func43 rfl 23 rfl rfl [] trivial ?_; intro a E
  refine wp_seq ?_
  refine region_plain (n := 1) [(0, .p)] rfl rfl ?_
  refine Run.assign rfl E rfl rfl rfl ?_; clear E a; intro a E
  refine Run.nil ?_
  refine then_n ?_
  refine wp_seq ?_
  refine region_plain (n := 3) [(0, .e), (1, .e), (2, .l)] rfl rfl ?_
  refine Run.call (args := [.int .i64 1]) rfl rfl E rfl rfl Try.func78 nm78 rfl rfl (blank_walk (g := 1) (k := 1) (by decide)) ?_; rintro e_ w ⟨B1, d2, rfl, S_⟩; refine ⟨_, rfl, (fun _ => S_.belT), ?_⟩; clear E a; intro a E
  replace S : St _ _ _ [_] := St.call (A := []) (R := []) S S_; clear S_
  refine Run.alloc rfl rfl E S rfl rfl z34 rfl ?_; clear E a S; intro b3 w a E S B_; clear B_
  refine Run.store (news := [.int .i64 0, .int .i64 0, .int .i64 0, .int .i64 0, .int .i64 0, .int .i64 0, .int .i64 (-1), .slice B1 4 d2]) (cs' := [_, _, _, _, _, _, _, _]) (hp' := [_, _]) 0 rfl E S rfl rfl rfl rfl rfl sz34 rfl rfl rfl rfl ?_; clear S; intro w S
  refine Run.nil ?_
  refine then_n ?_
  refine wp_seq ?_
  refine region_plain (n := 21) [(0, .p), (1, .l), (2, .p), (3, .p), (4, .p), (5, .p), (6, .l), (7, .p), (8, .l), (9, .p), (10, .p), (11, .p), (12, .p), (13, .l), (14, .p), (15, .p), (16, .p), (17, .e), (18, .p), (19, .p), (20, .p)] rfl rfl ?_
  refine Run.fieldAddr rfl E rfl rfl rfl fo34_7 (rfl) ?_; clear E a; intro a E
  refine Run.load1 rfl rfl E S rfl rfl rfl one32 (fun _ s => s.objCell 0 7 rfl rfl) ?_; clear E a; intro a E
  refine Run.len rfl E rfl rfl rfl Try.underlying32 ?_; clear E a; intro a E
  refine Run.eqi rfl E rfl rfl rfl rfl (b := true) (by decide) ?_; clear E a; intro a E
  refine Run.move rfl E rfl rfl rfl ?_; clear E a; intro a E
  refine Run.fieldAddr rfl E rfl rfl rfl fo34_7 (rfl) ?_; clear E a; intro a E
  refine Run.load1 rfl rfl E S rfl rfl rfl one32 (fun _ s => s.objCell 0 7 rfl rfl) ?_; clear E a; intro a E
  obtain ⟨bA, rfl⟩ := S.rowAddr 1 rfl (by decide)
  refine Run.indexAddr rfl E rfl rfl rfl rfl Try.underlying32 sz3 (by omega) (ix_at (m' := 3) (o := 3) (rfl) (Nat.mul_one _)) ?_; clear E a; intro a E
  refine Run.load1 rfl rfl E S rfl rfl rfl one3 (fun _ s => s.rowCell 1 rfl rfl) ?_; clear E a; intro a E
  refine Run.eqi rfl E rfl rfl rfl rfl (b := true) (by decide) ?_; clear E a; intro a E
  refine Run.pickT rfl E rfl rfl rfl rfl ?_; clear E a; intro a E
  refine Run.move rfl E rfl rfl rfl ?_; clear E a; intro a E
  refine Run.fieldAddr rfl E rfl rfl rfl fo34_6 (rfl) ?_; clear E a; intro a E
  refine Run.load1 rfl rfl E S rfl rfl rfl one3 (fun _ s => s.objCell 0 6 rfl rfl) ?_; clear E a; intro a E
  refine Run.eqi rfl E rfl rfl rfl rfl (b := true) (by decide) ?_; clear E a; intro a E
  refine Run.pickT rfl E rfl rfl rfl rfl ?_; clear E a; intro a E
  refine Run.move rfl E rfl rfl rfl ?_; clear E a; intro a E
  refine Run.call (args := [.int .i64 7]) rfl rfl E rfl rfl Try.func91 nm91 rfl rfl (name7) ?_; rintro e_ w ⟨rfl, B_⟩; refine ⟨_, rfl, fun _ => B_, ?_⟩; clear E a; replace S := S.bel B_; intro a E
  clear B_
  refine Run.bin (v := .bool true) rfl E rfl rfl rfl rfl (fun _ => by kernel_rfl) ?_; clear E a; intro a E
  refine Run.pickT rfl E rfl rfl rfl rfl ?_; clear E a; intro a E
  refine Run.assign rfl E rfl rfl rfl ?_; clear E a; intro a E
  refine Run.nil ?_
  refine then_n ?_
  refine wp_ret ?_
  exact ret1 E Try.results43 rfl ⟨rfl, S.belT⟩

end
end Go.Proofs.Ytlcglefbhlhcpaa.K
