/- The example of chapter 15; UndoBack, UndoParts walked. -/
import Derived.Test.YtlcglefbhlhcpaaKg
import Derived.Test.YtlcglefbhlhcpaaUnR
namespace Go.Proofs.Ytlcglefbhlhcpaa.K
open Go.RowKit
set_option linter.unusedVariables false
set_option maxRecDepth 100000
set_option maxHeartbeats 400000

section
variable {w0 : World} {A B : Option Addr} {c d : Nat} {l m : List Int}

theorem same15_walk (H1 : Rd w0 A l.length 1 (ints l)) (H2 : Rd w0 B m.length 1 (ints m)) (hl : l.length ≤ 140737488355328) : Calls Try.prog 54 [.slice A l.length c, .slice B m.length d].toArray w0 (fun r w' => r = .returned (.bool (decide (l = m))) ∧ Bel w0 w') := by
  have S := St.nil [] w0
  refine fn_start Try.func54 rfl 26 rfl rfl [(0, _), (1, _)] ⟨rfl, rfl, trivial⟩ ?_; intro a E
  refine wp_seq ?_
  refine region_plain (n := 1) [(0, .p)] rfl rfl ?_
  refine Run.assign rfl E rfl rfl rfl ?_; clear E a; intro a E
  refine Run.nil ?_
  refine then_n ?_
  refine wp_seq ?_
  refine wp_seq ?_
  refine region_plain (n := 5) [(0, .p), (1, .p), (2, .p), (3, .p), (4, .p)] rfl rfl ?_
  refine Run.move rfl E rfl rfl rfl ?_; clear E a; intro a E
  refine Run.len rfl E rfl rfl rfl Try.underlying32 ?_; clear E a; intro a E
  refine Run.move rfl E rfl rfl rfl ?_; clear E a; intro a E
  refine Run.len rfl E rfl rfl rfl Try.underlying32 ?_; clear E a; intro a E
  by_cases hn : l.length = m.length
  · skip
    refine Run.nei rfl E rfl rfl rfl rfl (decide_eq_false (fun h => h (by rw [hn]))) ?_; clear E a; intro a E
    refine Run.nil ?_
    refine then_n ?_
    refine cond_F E rfl ?_
    refine wp_skip ?_
    refine then_n ?_
    refine wp_seq ?_
    refine wp_seq ?_
    refine region_plain (n := 3) [(0, .p), (1, .p), (2, .p)] rfl rfl ?_
    refine Run.move rfl E rfl rfl rfl ?_; clear E a; intro a E
    refine Run.len rfl E rfl rfl rfl Try.underlying32 ?_; clear E a; intro a E
    refine Run.move rfl E rfl rfl rfl ?_; clear E a; intro a E
    refine Run.nil ?_
    refine then_n ?_
    refine wp_block ?_
    refine wp_loop_ghost (fun n_ a w => ∃ i : Nat, l.length - i = n_ ∧ Env 26 [(0, .slice A l.length c), (1, .slice B m.length d), (12, .int .i64 (l.length : Int)), (13, .int .i64 (i : Int))] a ∧ St _ _ w [] ∧ (∀ j, j < i → l[j]? = m[j]?)) _ ⟨0, rfl, E.keeps [(0, _), (1, _), (12, _), (13, _)] ⟨rfl, rfl, rfl, rfl, trivial⟩, S, fun j hj => absurd hj (Nat.not_lt_zero j)⟩ ?_
    clear E a S
    rintro n_ a w ⟨i, rfl, E, S, hp⟩
    refine wp_seq ?_
    refine region_plain (n := 1) [(0, .p)] rfl rfl ?_
    by_cases hlt : i < l.length
    · skip
      obtain ⟨bA, oA, rfl, hA⟩ := H1.place (by omega)
      obtain ⟨bB, oB, rfl, hB⟩ := H2.place (by omega)
      refine Run.lss rfl E rfl rfl rfl rfl (decide_eq_true (by omega)) ?_; clear E a; intro a E
      refine Run.nil ?_
      refine then_n ?_
      refine wp_seq ?_
      refine cond_T E rfl ?_
      refine wp_skip ?_
      refine then_n ?_
      refine wp_seq ?_
      refine wp_block ?_
      refine wp_seq ?_
      refine region_plain (n := 2) [(0, .p), (1, .p)] rfl rfl ?_
      refine Run.move rfl E rfl rfl rfl ?_; clear E a; intro a E
      refine Run.assign rfl E rfl rfl rfl ?_; clear E a; intro a E
      refine Run.nil ?_
      refine then_n ?_
      refine wp_seq ?_
      refine region_drawS (n := 9) [(0, .p), (1, .p), (2, .p), (4, .p), (5, .p), (6, .p), (3, .t), (7, .t), (8, .p)] [0, 0, 3, 7, 0, 0, 48, 112, 255] S mixed rfl rfl (by kernel_rfl) (fun _ _ _ _ _ h => h) ?_; clear S; intro w S B_; clear B_
      refine Run.move rfl E rfl rfl rfl ?_; clear E a; intro a E
      refine Run.move rfl E rfl rfl rfl ?_; clear E a; intro a E
      refine Run.indexAddr rfl E rfl rfl rfl rfl Try.underlying32 sz3 (by omega) (ix_at1 (m' := i) (by omega)) ?_; clear E a; intro a E
      refine Run.move rfl E rfl rfl rfl ?_; clear E a; intro a E
      refine Run.move rfl E rfl rfl rfl ?_; clear E a; intro a E
      refine Run.indexAddr rfl E rfl rfl rfl rfl Try.underlying32 sz3 (by omega) (ix_at1 (m' := i) (by omega)) ?_; clear E a; intro a E
      refine Run.load1 rfl rfl E S rfl rfl rfl one3 (fun _ s_ => rdAt1 hA s_ (ints_get' (List.getElem?_eq_getElem hlt))) ?_; clear E a; intro a E
      refine Run.load1 rfl rfl E S rfl rfl rfl one3 (fun _ s_ => rdAt1 hB s_ (ints_get' ((List.getElem?_eq_getElem (by omega) : m[i]? = some (m[i]'(by omega)))))) ?_; clear E a; intro a E
      by_cases hne : l[i] ≠ m[i]
      · skip
        refine Run.nei rfl E rfl rfl rfl rfl (decide_eq_true (by omega)) ?_; clear E a; intro a E
        refine Run.nil ?_
        refine then_n ?_
        refine cond_T E rfl ?_
        refine wp_seq ?_
        refine region_plain (n := 1) [(0, .p)] rfl rfl ?_
        refine Run.assign rfl E rfl rfl rfl ?_; clear E a; intro a E
        refine Run.nil ?_
        refine then_n ?_
        refine wp_ret ?_
        refine blk_r ?_
        refine then_r ?_
        refine then_r ?_
        refine blk_r ?_
        refine then_r ?_
        exact ret1 E Try.results54 rfl ⟨by rw [decide_eq_false (fun e => hne (by subst e; rfl))], S.belT⟩
      · skip
        refine Run.nei rfl E rfl rfl rfl rfl (decide_eq_false (by omega)) ?_; clear E a; intro a E
        refine Run.nil ?_
        refine then_n ?_
        refine cond_F E rfl ?_
        refine wp_skip ?_
        refine blk_n ?_
        refine then_n ?_
        refine region_plain (n := 2) [(0, .p), (1, .p)] rfl rfl ?_
        refine Run.add rfl E rfl rfl rfl rfl (i64_ok (by omega)) ?_; clear E a; intro a E
        refine Run.move rfl E rfl rfl rfl ?_; clear E a; intro a E
        refine Run.nil ?_
        refine then_n ?_
        replace E := E.setv 13 rfl (show Value.int .i64 ((i : Int) + 1) = .int .i64 ((i + 1 : Nat) : Int) from rfl)
        exact ⟨_, (by omega), (i + 1), rfl, E.keeps [(0, _), (1, _), (12, _), (13, _)] ⟨rfl, rfl, rfl, rfl, trivial⟩, S, eq_step hp (by rw [List.getElem?_eq_getElem hlt, List.getElem?_eq_getElem (by omega)]; exact congrArg some (Decidable.of_not_not hne))⟩
    · skip
      refine Run.lss rfl E rfl rfl rfl rfl (decide_eq_false (by omega)) ?_; clear E a; intro a E
      refine Run.nil ?_
      refine then_n ?_
      refine wp_seq ?_
      refine cond_F E rfl ?_
      refine wp_exit ?_
      refine then_x ?_
      refine then_x ?_
      refine blk_x ?_
      refine then_n ?_
      refine wp_seq ?_
      refine region_plain (n := 1) [(0, .p)] rfl rfl ?_
      refine Run.assign rfl E rfl rfl rfl ?_; clear E a; intro a E
      refine Run.nil ?_
      refine then_n ?_
      refine wp_ret ?_
      exact ret1 E Try.results54 rfl ⟨by rw [decide_eq_true (list_eq_of hn (by omega) hp)], S.belT⟩
  · skip
    refine Run.nei rfl E rfl rfl rfl rfl (decide_eq_true (fun h => hn (by omega))) ?_; clear E a; intro a E
    refine Run.nil ?_
    refine then_n ?_
    refine cond_T E rfl ?_
    refine wp_seq ?_
    refine region_plain (n := 1) [(0, .p)] rfl rfl ?_
    refine Run.assign rfl E rfl rfl rfl ?_; clear E a; intro a E
    refine Run.nil ?_
    refine then_n ?_
    refine wp_ret ?_
    refine then_r ?_
    exact ret1 E Try.results54 rfl ⟨by rw [decide_eq_false (fun e => hn (by rw [e]))], S.belT⟩

theorem anchor15  : Calls Try.prog 48 [].toArray w0 (fun r w' => r = .returned (.bool true) ∧ Bel w0 w') := by
  have S := St.nil [] w0
  refine fn_start Try.func48 rfl 48 rfl rfl [] trivial ?_; intro a E
  refine wp_seq ?_
  refine region_plain (n := 1) [(0, .p)] rfl rfl ?_
  refine Run.assign rfl E rfl rfl rfl ?_; clear E a; intro a E
  refine Run.nil ?_
  refine then_n ?_
  refine wp_seq ?_
  refine region_plain (n := 6) [(0, .e), (1, .p), (2, .p), (3, .p), (4, .p), (5, .p)] rfl rfl ?_
  refine Run.call (args := [.int .i64 2, .int .i64 0]) rfl rfl E rfl rfl Try.func49 nm49 rfl rfl (un_new (k := 2) (v := 0) (by decide)) ?_; rintro e_ w ⟨g1, A2, c3, rfl, S_⟩; refine ⟨_, rfl, (fun _ => S_.belT), ?_⟩; clear E a; intro a E
  replace S : St _ _ _ [.obj _ _ [_, _], _, _] := St.call (A := []) (R := []) S S_; clear S_
  refine Run.move rfl E rfl rfl rfl ?_; clear E a; intro a E
  refine Run.extract rfl E rfl rfl rfl rfl ?_; clear E a; intro a E
  refine Run.extract rfl E rfl rfl rfl rfl ?_; clear E a; intro a E
  refine Run.assign rfl E rfl rfl rfl ?_; clear E a; intro a E
  refine Run.assign rfl E rfl rfl rfl ?_; clear E a; intro a E
  refine Run.nil ?_
  refine then_n ?_
  refine wp_seq ?_
  refine wp_seq ?_
  refine region_plain (n := 6) [(0, .p), (1, .p), (2, .p), (3, .p), (4, .p), (5, .p)] rfl rfl ?_
  refine Run.move rfl E rfl rfl rfl ?_; clear E a; intro a E
  refine Run.nei rfl E rfl rfl rfl rfl (b := false) (by decide) ?_; clear E a; intro a E
  refine Run.move rfl E rfl rfl rfl ?_; clear E a; intro a E
  refine Run.move rfl E rfl rfl rfl ?_; clear E a; intro a E
  refine Run.bin (v := .bool false) rfl E rfl rfl rfl rfl (fun _ => by kernel_rfl) ?_; clear E a; intro a E
  refine Run.pickF rfl E rfl rfl rfl rfl ?_; clear E a; intro a E
  refine Run.nil ?_
  refine then_n ?_
  refine cond_F E rfl ?_
  refine wp_skip ?_
  refine then_n ?_
  refine wp_seq ?_
  refine region_plain (n := 2) [(0, .p), (1, .l)] rfl rfl ?_
  refine Run.move rfl E rfl rfl rfl ?_; clear E a; intro a E
  refine Run.call (args := [.pointer (some ⟨g1, 0, none⟩), .int .i64 1, .int .i64 5]) rfl rfl E rfl rfl Try.func50 nm50 rfl rfl (un_set (k := 1) (x := 5) (y := 0) (St.ownL (A := (Book g1 A2 c3 none 0 (List.replicate 2 0) ([] : List Note))) (R := []) S) rfl (by decide) (by decide) (by decide)) ?_; rintro e_ w ⟨rfl, B4, d5, S_⟩; refine ⟨_, rfl, (fun h => by cases h), ?_⟩; clear E a; intro a E
  replace S : St _ _ _ [.obj _ _ [_, _], _, _] := St.call (A := (Book g1 A2 c3 none 0 (List.replicate 2 0) ([] : List Note))) (R := []) S S_; clear S_
  refine Run.nil ?_
  refine then_n ?_
  refine wp_seq ?_
  refine region_plain (n := 2) [(0, .p), (1, .l)] rfl rfl ?_
  refine Run.move rfl E rfl rfl rfl ?_; clear E a; intro a E
  refine Run.call (args := [.pointer (some ⟨g1, 0, none⟩), .int .i64 1, .int .i64 5]) rfl rfl E rfl rfl Try.func50 nm50 rfl rfl (un_set_same (k := 1) (x := 5) (y := 5) (St.ownL (A := (Book g1 A2 c3 B4 d5 ((List.replicate 2 0).set 1 5) (([] : List Note) ++ [(⟨((1 : Nat) : Int), 0⟩ : Note)]))) (R := []) S) rfl (by decide) rfl) ?_; rintro e_ w ⟨rfl, S_⟩; refine ⟨_, rfl, (fun h => by cases h), ?_⟩; clear E a; intro a E
  replace S : St _ _ _ [.obj _ _ [_, _], _, _] := St.call (A := (Book g1 A2 c3 B4 d5 ((List.replicate 2 0).set 1 5) (([] : List Note) ++ [(⟨((1 : Nat) : Int), 0⟩ : Note)]))) (R := []) S S_; clear S_
  refine Run.nil ?_
  refine then_n ?_
  refine wp_seq ?_
  refine region_plain (n := 2) [(0, .p), (1, .l)] rfl rfl ?_
  refine Run.move rfl E rfl rfl rfl ?_; clear E a; intro a E
  refine Run.call (args := [.pointer (some ⟨g1, 0, none⟩), .int .i64 0, .int .i64 2]) rfl rfl E rfl rfl Try.func50 nm50 rfl rfl (un_set (k := 0) (x := 2) (y := 0) (St.ownL (A := (Book g1 A2 c3 B4 d5 ((List.replicate 2 0).set 1 5) (([] : List Note) ++ [(⟨((1 : Nat) : Int), 0⟩ : Note)]))) (R := []) S) rfl (by decide) (by decide) (by decide)) ?_; rintro e_ w ⟨rfl, B6, d7, S_⟩; refine ⟨_, rfl, (fun h => by cases h), ?_⟩; clear E a; intro a E
  replace S : St _ _ _ [.obj _ _ [_, _], _, _] := St.call (A := (Book g1 A2 c3 B4 d5 ((List.replicate 2 0).set 1 5) (([] : List Note) ++ [(⟨((1 : Nat) : Int), 0⟩ : Note)]))) (R := []) S S_; clear S_
  refine Run.nil ?_
  refine then_n ?_
  refine wp_seq ?_
  refine region_plain (n := 3) [(0, .p), (1, .e), (2, .p)] rfl rfl ?_
  refine Run.move rfl E rfl rfl rfl ?_; clear E a; intro a E
  refine Run.call (args := [.pointer (some ⟨g1, 0, none⟩)]) rfl rfl E rfl rfl Try.func52 nm52 rfl rfl (un_mark (St.holdsL (A := (Book g1 A2 c3 B6 d7 (((List.replicate 2 0).set 1 5).set 0 2) ((([] : List Note) ++ [(⟨((1 : Nat) : Int), 0⟩ : Note)]) ++ [(⟨((0 : Nat) : Int), 0⟩ : Note)]))) (R := []) (S.sel [0, 1, 2] ((Book g1 A2 c3 B6 d7 (((List.replicate 2 0).set 1 5).set 0 2) ((([] : List Note) ++ [(⟨((1 : Nat) : Int), 0⟩ : Note)]) ++ [(⟨((0 : Nat) : Int), 0⟩ : Note)])) ++ []) rfl rfl))) ?_; rintro e_ w ⟨rfl, B_⟩; refine ⟨_, rfl, fun _ => B_, ?_⟩; clear E a; replace S := S.bel B_; intro a E
  clear B_
  refine Run.assign rfl E rfl rfl rfl ?_; clear E a; intro a E
  refine Run.nil ?_
  refine then_n ?_
  refine wp_seq ?_
  refine region_plain (n := 2) [(0, .p), (1, .l)] rfl rfl ?_
  refine Run.move rfl E rfl rfl rfl ?_; clear E a; intro a E
  refine Run.call (args := [.pointer (some ⟨g1, 0, none⟩), .int .i64 1]) rfl rfl E rfl rfl Try.func53 nm53 rfl rfl (un_undo (k := 1) (St.ownL (A := (Book g1 A2 c3 B6 d7 (((List.replicate 2 0).set 1 5).set 0 2) ((([] : List Note) ++ [(⟨((1 : Nat) : Int), 0⟩ : Note)]) ++ [(⟨((0 : Nat) : Int), 0⟩ : Note)]))) (R := []) S) (by decide) (by decide) (by decide) (by intro x hx; simp at hx; rcases hx with rfl | rfl <;> exact ⟨by decide, by decide⟩)) ?_; rintro e_ w ⟨rfl, S_⟩; refine ⟨_, rfl, (fun h => by cases h), ?_⟩; clear E a; intro a E
  replace S : St _ _ _ [.obj _ _ [_, _], _, _] := St.call (A := (Book g1 A2 c3 B6 d7 (((List.replicate 2 0).set 1 5).set 0 2) ((([] : List Note) ++ [(⟨((1 : Nat) : Int), 0⟩ : Note)]) ++ [(⟨((0 : Nat) : Int), 0⟩ : Note)]))) (R := []) S S_; clear S_
  refine Run.nil ?_
  refine then_n ?_
  refine wp_seq ?_
  refine region_plain (n := 7) [(0, .p), (1, .e), (2, .p), (3, .p), (4, .p), (5, .p), (6, .p)] rfl rfl ?_
  refine Run.move rfl E rfl rfl rfl ?_; clear E a; intro a E
  refine Run.call (args := [.pointer (some ⟨g1, 0, none⟩), .int .i64 0]) rfl rfl E rfl rfl Try.func55 nm55 rfl rfl (un_get (k := 0) (x := 0) (St.holdsL (A := (Book g1 A2 c3 B6 d7 (back (((([] : List Note) ++ [(⟨((1 : Nat) : Int), 0⟩ : Note)]) ++ [(⟨((0 : Nat) : Int), 0⟩ : Note)]).drop 1) (((List.replicate 2 0).set 1 5).set 0 2)) (((([] : List Note) ++ [(⟨((1 : Nat) : Int), 0⟩ : Note)]) ++ [(⟨((0 : Nat) : Int), 0⟩ : Note)]).take 1))) (R := []) (S.sel [0, 1, 2] ((Book g1 A2 c3 B6 d7 (back (((([] : List Note) ++ [(⟨((1 : Nat) : Int), 0⟩ : Note)]) ++ [(⟨((0 : Nat) : Int), 0⟩ : Note)]).drop 1) (((List.replicate 2 0).set 1 5).set 0 2)) (((([] : List Note) ++ [(⟨((1 : Nat) : Int), 0⟩ : Note)]) ++ [(⟨((0 : Nat) : Int), 0⟩ : Note)]).take 1)) ++ []) rfl rfl)) rfl (by decide)) ?_; rintro e_ w ⟨rfl, B_⟩; refine ⟨_, rfl, fun _ => B_, ?_⟩; clear E a; replace S := S.bel B_; intro a E
  clear B_
  refine Run.move rfl E rfl rfl rfl ?_; clear E a; intro a E
  refine Run.extract rfl E rfl rfl rfl rfl ?_; clear E a; intro a E
  refine Run.extract rfl E rfl rfl rfl rfl ?_; clear E a; intro a E
  refine Run.assign rfl E rfl rfl rfl ?_; clear E a; intro a E
  refine Run.assign rfl E rfl rfl rfl ?_; clear E a; intro a E
  refine Run.nil ?_
  refine then_n ?_
  refine wp_seq ?_
  refine region_plain (n := 7) [(0, .p), (1, .e), (2, .p), (3, .p), (4, .p), (5, .p), (6, .p)] rfl rfl ?_
  refine Run.move rfl E rfl rfl rfl ?_; clear E a; intro a E
  refine Run.call (args := [.pointer (some ⟨g1, 0, none⟩), .int .i64 1]) rfl rfl E rfl rfl Try.func55 nm55 rfl rfl (un_get (k := 1) (x := 5) (St.holdsL (A := (Book g1 A2 c3 B6 d7 (back (((([] : List Note) ++ [(⟨((1 : Nat) : Int), 0⟩ : Note)]) ++ [(⟨((0 : Nat) : Int), 0⟩ : Note)]).drop 1) (((List.replicate 2 0).set 1 5).set 0 2)) (((([] : List Note) ++ [(⟨((1 : Nat) : Int), 0⟩ : Note)]) ++ [(⟨((0 : Nat) : Int), 0⟩ : Note)]).take 1))) (R := []) (S.sel [0, 1, 2] ((Book g1 A2 c3 B6 d7 (back (((([] : List Note) ++ [(⟨((1 : Nat) : Int), 0⟩ : Note)]) ++ [(⟨((0 : Nat) : Int), 0⟩ : Note)]).drop 1) (((List.replicate 2 0).set 1 5).set 0 2)) (((([] : List Note) ++ [(⟨((1 : Nat) : Int), 0⟩ : Note)]) ++ [(⟨((0 : Nat) : Int), 0⟩ : Note)]).take 1)) ++ []) rfl rfl)) rfl (by decide)) ?_; rintro e_ w ⟨rfl, B_⟩; refine ⟨_, rfl, fun _ => B_, ?_⟩; clear E a; replace S := S.bel B_; intro a E
  clear B_
  refine Run.move rfl E rfl rfl rfl ?_; clear E a; intro a E
  refine Run.extract rfl E rfl rfl rfl rfl ?_; clear E a; intro a E
  refine Run.extract rfl E rfl rfl rfl rfl ?_; clear E a; intro a E
  refine Run.assign rfl E rfl rfl rfl ?_; clear E a; intro a E
  refine Run.assign rfl E rfl rfl rfl ?_; clear E a; intro a E
  refine Run.nil ?_
  refine then_n ?_
  refine wp_seq ?_
  refine region_plain (n := 11) [(0, .p), (1, .p), (2, .p), (3, .p), (4, .p), (5, .p), (6, .p), (7, .p), (8, .p), (9, .p), (10, .p)] rfl rfl ?_
  refine Run.move rfl E rfl rfl rfl ?_; clear E a; intro a E
  refine Run.eqi rfl E rfl rfl rfl rfl (decide_eq_true (rfl)) ?_; clear E a; intro a E
  refine Run.move rfl E rfl rfl rfl ?_; clear E a; intro a E
  refine Run.move rfl E rfl rfl rfl ?_; clear E a; intro a E
  refine Run.eqi rfl E rfl rfl rfl rfl (b := true) (by decide) ?_; clear E a; intro a E
  refine Run.pickT rfl E rfl rfl rfl rfl ?_; clear E a; intro a E
  refine Run.move rfl E rfl rfl rfl ?_; clear E a; intro a E
  refine Run.move rfl E rfl rfl rfl ?_; clear E a; intro a E
  refine Run.eqi rfl E rfl rfl rfl rfl (b := true) (by decide) ?_; clear E a; intro a E
  refine Run.pickT rfl E rfl rfl rfl rfl ?_; clear E a; intro a E
  refine Run.assign rfl E rfl rfl rfl ?_; clear E a; intro a E
  refine Run.nil ?_
  refine then_n ?_
  refine wp_ret ?_
  exact ret1 E Try.results48 rfl ⟨rfl, S.belT⟩

/-- A step of a book. -/
structure Stp where
  (kind i x : Int)
def Stp.cells (o : Stp) : List Value := [.int .i64 o.kind, .int .i64 o.i, .int .i64 o.x]
def stps (l : List Stp) : List Value := l.flatMap Stp.cells
theorem stps_get {l : List Stp} {i : Nat} {e : Stp} (h : l[i]? = some e) : ∀ j v, e.cells[j]? = some v → (stps l)[i * 3 + j]? = some v := by
  obtain ⟨hlt, he⟩ := List.getElem?_eq_some_iff.1 h
  subst he
  exact flat_at _ 3 (fun _ => rfl) l i hlt

theorem same15_self (H1 : Rd w0 A l.length 1 (ints l)) (H2 : Rd w0 B l.length 1 (ints l)) (hl : l.length ≤ 140737488355328) : Calls Try.prog 54 [.slice A l.length c, .slice B l.length d].toArray w0 (fun r w' => r = .returned (.bool true) ∧ Bel w0 w') := by
  have := same15_walk (c := c) (d := d) H1 H2 hl
  simpa using this

theorem undoBack_walk {A Ath : Option Addr} {c cth : Nat} {first then_ : List Stp} (H1 : Rd w0 A first.length 3 (stps first)) (H2 : Rd w0 Ath then_.length 3 (stps then_)) : Calls Try.prog 9 [.slice A first.length c, .slice Ath then_.length cth].toArray w0 (fun r w' => r = .returned (.bool true) ∧ Bel w0 w') := by
  have S := St.nil [] w0
  refine fn_start Try.func9 rfl 97 rfl rfl [(0, _), (1, _)] ⟨rfl, rfl, trivial⟩ ?_; intro a E
  refine wp_seq ?_
  refine region_plain (n := 1) [(0, .p)] rfl rfl ?_
  refine Run.assign rfl E rfl rfl rfl ?_; clear E a; intro a E
  refine Run.nil ?_
  refine then_n ?_
  refine wp_seq ?_
  refine wp_seq ?_
  refine region_plain (n := 2) [(0, .e), (1, .p)] rfl rfl ?_
  refine Run.call (args := []) rfl rfl E rfl rfl Try.func48 nm48 rfl rfl (anchor15) ?_; rintro e_ w ⟨rfl, B_⟩; refine ⟨_, rfl, fun _ => B_, ?_⟩; clear E a; replace S := S.bel B_; intro a E
  clear B_
  refine Run.not rfl E rfl rfl rfl rfl ?_; clear E a; intro a E
  refine Run.nil ?_
  refine then_n ?_
  refine cond_F E rfl ?_
  refine wp_skip ?_
  refine then_n ?_
  refine wp_seq ?_
  refine region_plain (n := 6) [(0, .e), (1, .p), (2, .p), (3, .p), (4, .p), (5, .p)] rfl rfl ?_
  refine Run.call (args := [.int .i64 6, .int .i64 7]) rfl rfl E rfl rfl Try.func49 nm49 rfl rfl (un_new (k := 6) (v := 7) (by decide)) ?_; rintro e_ w ⟨g1, A2, c3, rfl, S_⟩; refine ⟨_, rfl, (fun _ => S_.belT), ?_⟩; clear E a; intro a E
  replace S : St _ _ _ [.obj _ _ [_, _], _, _] := St.call (A := []) (R := []) S S_; clear S_
  refine Run.move rfl E rfl rfl rfl ?_; clear E a; intro a E
  refine Run.extract rfl E rfl rfl rfl rfl ?_; clear E a; intro a E
  refine Run.extract rfl E rfl rfl rfl rfl ?_; clear E a; intro a E
  refine Run.assign rfl E rfl rfl rfl ?_; clear E a; intro a E
  refine Run.assign rfl E rfl rfl rfl ?_; clear E a; intro a E
  refine Run.nil ?_
  refine then_n ?_
  refine wp_seq ?_
  refine wp_seq ?_
  refine region_plain (n := 16) [(0, .p), (1, .p), (2, .p), (3, .p), (4, .p), (5, .p), (6, .p), (7, .p), (8, .p), (9, .p), (10, .p), (11, .p), (12, .p), (13, .p), (14, .p), (15, .p)] rfl rfl ?_
  refine Run.move rfl E rfl rfl rfl ?_; clear E a; intro a E
  refine Run.nei rfl E rfl rfl rfl rfl (b := false) (by decide) ?_; clear E a; intro a E
  refine Run.move rfl E rfl rfl rfl ?_; clear E a; intro a E
  refine Run.move rfl E rfl rfl rfl ?_; clear E a; intro a E
  refine Run.bin (v := .bool false) rfl E rfl rfl rfl rfl (fun _ => by kernel_rfl) ?_; clear E a; intro a E
  refine Run.pickF rfl E rfl rfl rfl rfl ?_; clear E a; intro a E
  refine Run.move rfl E rfl rfl rfl ?_; clear E a; intro a E
  refine Run.move rfl E rfl rfl rfl ?_; clear E a; intro a E
  refine Run.len rfl E rfl rfl rfl Try.underlying65 ?_; clear E a; intro a E
  by_cases hb1 : 200 < (first.length : Int)
  · skip
    refine Run.gtr rfl E rfl rfl rfl rfl (decide_eq_true (hb1)) ?_; clear E a; intro a E
    refine Run.pickF rfl E rfl rfl rfl rfl ?_; clear E a; intro a E
    refine Run.move rfl E rfl rfl rfl ?_; clear E a; intro a E
    refine Run.off rfl E rfl rfl ?_; clear E a; intro a E
    refine Run.off rfl E rfl rfl ?_; clear E a; intro a E
    refine Run.off rfl E rfl rfl ?_; clear E a; intro a E
    refine Run.pickT rfl E rfl rfl rfl rfl ?_; clear E a; intro a E
    refine Run.nil ?_
    refine then_n ?_
    refine cond_T E rfl ?_
    refine wp_seq ?_
    refine region_plain (n := 7) [(0, .p), (1, .p), (2, .p), (3, .p), (4, .p), (5, .p), (6, .p)] rfl rfl ?_
    refine Run.move rfl E rfl rfl rfl ?_; clear E a; intro a E
    refine Run.eqi rfl E rfl rfl rfl rfl (b := true) (by decide) ?_; clear E a; intro a E
    refine Run.move rfl E rfl rfl rfl ?_; clear E a; intro a E
    refine Run.move rfl E rfl rfl rfl ?_; clear E a; intro a E
    refine Run.bin (v := .bool true) rfl E rfl rfl rfl rfl (fun _ => by kernel_rfl) ?_; clear E a; intro a E
    refine Run.pickT rfl E rfl rfl rfl rfl ?_; clear E a; intro a E
    refine Run.assign rfl E rfl rfl rfl ?_; clear E a; intro a E
    refine Run.nil ?_
    refine then_n ?_
    refine wp_ret ?_
    refine then_r ?_
    exact ret1 E Try.results9 rfl ⟨rfl, S.belT⟩
  · skip
    refine Run.gtr rfl E rfl rfl rfl rfl (decide_eq_false (hb1)) ?_; clear E a; intro a E
    refine Run.pickF rfl E rfl rfl rfl rfl ?_; clear E a; intro a E
    refine Run.move rfl E rfl rfl rfl ?_; clear E a; intro a E
    refine Run.move rfl E rfl rfl rfl ?_; clear E a; intro a E
    refine Run.len rfl E rfl rfl rfl Try.underlying65 ?_; clear E a; intro a E
    by_cases hb2 : 200 < (then_.length : Int)
    · skip
      refine Run.gtr rfl E rfl rfl rfl rfl (decide_eq_true (hb2)) ?_; clear E a; intro a E
      refine Run.pickF rfl E rfl rfl rfl rfl ?_; clear E a; intro a E
      refine Run.nil ?_
      refine then_n ?_
      refine cond_T E rfl ?_
      refine wp_seq ?_
      refine region_plain (n := 7) [(0, .p), (1, .p), (2, .p), (3, .p), (4, .p), (5, .p), (6, .p)] rfl rfl ?_
      refine Run.move rfl E rfl rfl rfl ?_; clear E a; intro a E
      refine Run.eqi rfl E rfl rfl rfl rfl (b := true) (by decide) ?_; clear E a; intro a E
      refine Run.move rfl E rfl rfl rfl ?_; clear E a; intro a E
      refine Run.move rfl E rfl rfl rfl ?_; clear E a; intro a E
      refine Run.bin (v := .bool true) rfl E rfl rfl rfl rfl (fun _ => by kernel_rfl) ?_; clear E a; intro a E
      refine Run.pickT rfl E rfl rfl rfl rfl ?_; clear E a; intro a E
      refine Run.assign rfl E rfl rfl rfl ?_; clear E a; intro a E
      refine Run.nil ?_
      refine then_n ?_
      refine wp_ret ?_
      refine then_r ?_
      exact ret1 E Try.results9 rfl ⟨rfl, S.belT⟩
    · skip
      refine Run.gtr rfl E rfl rfl rfl rfl (decide_eq_false (hb2)) ?_; clear E a; intro a E
      refine Run.pickF rfl E rfl rfl rfl rfl ?_; clear E a; intro a E
      refine Run.nil ?_
      refine then_n ?_
      refine cond_F E rfl ?_
      refine wp_skip ?_
      refine then_n ?_
      refine wp_seq ?_
      refine wp_seq ?_
      refine region_plain (n := 3) [(0, .p), (1, .p), (2, .p)] rfl rfl ?_
      refine Run.move rfl E rfl rfl rfl ?_; clear E a; intro a E
      refine Run.len rfl E rfl rfl rfl Try.underlying65 ?_; clear E a; intro a E
      refine Run.move rfl E rfl rfl rfl ?_; clear E a; intro a E
      refine Run.nil ?_
      refine then_n ?_
      refine wp_block ?_
      refine wp_loop_ghost (fun n_ a w => ∃ i : Nat, ∃ now : List Int, ∃ trail : List Note, ∃ B : Option Addr, ∃ d : Nat, first.length - i = n_ ∧ Env 97 [(1, .slice Ath then_.length cth), (4, .bool false), (5, .pointer (some ⟨g1, 0, none⟩)), (41, .slice A first.length c), (42, .int .i64 (first.length : Int)), (43, .int .i64 (i : Int))] a ∧ St _ _ w [.obj g1 136 [.slice A2 now.length c3, .slice B trail.length d], .row (.slice A2 now.length c3) 3 1 now.length (ints now), .row (.slice B trail.length d) 138 2 trail.length (notes trail)] ∧ (i ≤ first.length) ∧ (now.length = 6) ∧ (trail.length ≤ i) ∧ (Ranged 6 trail)) _ ⟨0, (List.replicate 6 7), ([] : List Note), none, 0, rfl, E.keeps [(1, _), (4, _), (5, _), (41, _), (42, _), (43, _)] ⟨rfl, rfl, rfl, rfl, rfl, rfl, trivial⟩, S, Nat.zero_le _, (by simp), (by simp), (fun x hx => by cases hx)⟩ ?_
      clear E a S
      rintro n_ a w ⟨i, now, trail, B, d, rfl, E, S, hil, hnl, htl, hrg⟩
      refine wp_seq ?_
      refine region_plain (n := 1) [(0, .p)] rfl rfl ?_
      by_cases hlt : i < first.length
      · skip
        obtain ⟨bA, obA, rfl, hbA⟩ := H1.place (by omega)
        refine Run.lss rfl E rfl rfl rfl rfl (decide_eq_true (by omega)) ?_; clear E a; intro a E
        refine Run.nil ?_
        refine then_n ?_
        refine wp_seq ?_
        refine cond_T E rfl ?_
        refine wp_skip ?_
        refine then_n ?_
        refine wp_seq ?_
        refine wp_block ?_
        refine wp_seq ?_
        refine region_plain (n := 4) [(0, .p), (1, .l), (2, .e), (3, .l)] rfl rfl ?_
        refine Run.indexAddr rfl E rfl rfl rfl rfl Try.underlying65 sz70 (by omega) (ix_at' (m' := i) (by omega)) ?_; clear E a; intro a E
        refine Run.loadN (cs := [.int .i64 ((first[i]).kind), .int .i64 ((first[i]).i), .int .i64 ((first[i]).x)]) rfl rfl E S rfl rfl rfl ag70 rfl (fun _ s_ => rdAtL hbA s_ _ _ (stps_get (List.getElem?_eq_getElem hlt))) ?_; clear E a; intro a E
        refine Run.alloc rfl rfl E S rfl rfl z70 rfl ?_; clear E a S; intro b4 w a E S B_; clear B_
        refine Run.store (news := [.int .i64 ((first[i]).kind), .int .i64 ((first[i]).i), .int .i64 ((first[i]).x)]) (cs' := [_, _, _]) (hp' := [_, _, _, _]) 0 rfl E S rfl rfl rfl rfl rfl sz70 rfl rfl rfl rfl ?_; clear S; intro w S
        refine Run.nil ?_
        refine then_n ?_
        refine region_plain (n := 6) [(0, .p), (1, .p), (2, .l), (3, .p), (4, .l), (5, .l)] rfl rfl ?_
        refine Run.move rfl E rfl rfl rfl ?_; clear E a; intro a E
        refine Run.fieldAddr rfl E rfl rfl rfl fo70_1 (rfl) ?_; clear E a; intro a E
        refine Run.load1 rfl rfl E S rfl rfl rfl one3 (fun _ s => s.objCell 0 1 rfl rfl) ?_; clear E a; intro a E
        refine Run.fieldAddr rfl E rfl rfl rfl fo70_2 (rfl) ?_; clear E a; intro a E
        refine Run.load1 rfl rfl E S rfl rfl rfl one3 (fun _ s => s.objCell 0 2 rfl rfl) ?_; clear E a; intro a E
        replace S : St _ _ _ [.obj _ _ [_, _], _, _, .obj _ _ [_, _, _]] := S.sel [1, 2, 3, 0] _ rfl rfl
        refine Run.call (args := [.pointer (some ⟨g1, 0, none⟩), .int .i64 ((first[i]).i), .int .i64 ((first[i]).x)]) rfl rfl E rfl rfl Try.func50 nm50 rfl rfl (un_set_any (i := (first[i]).i) (x := (first[i]).x) (St.ownL (A := (Book g1 A2 c3 B d now trail)) (R := [_]) S) (by omega) (by omega)) ?_; rintro e_ w ⟨b5, B6, d7, rfl, -, S_⟩; refine ⟨_, rfl, (fun h => by cases h), ?_⟩; clear E a; intro a E
        replace S : St _ _ _ [.obj _ _ [_, _], _, _, .obj _ _ [_, _, _]] := St.call (A := (Book g1 A2 c3 B d now trail)) (R := [_]) S S_; clear S_
        refine Run.nil ?_
        refine blk_n ?_
        refine then_n ?_
        refine region_plain (n := 2) [(0, .p), (1, .p)] rfl rfl ?_
        refine Run.add rfl E rfl rfl rfl rfl (i64_ok (by omega)) ?_; clear E a; intro a E
        refine Run.move rfl E rfl rfl rfl ?_; clear E a; intro a E
        refine Run.nil ?_
        refine then_n ?_
        replace E := E.setv 43 rfl (show Value.int .i64 ((i : Int) + 1) = .int .i64 ((i + 1 : Nat) : Int) from rfl)
        have hT := setT_len now trail (first[i]).i (first[i]).x
        have hG := setT_ge now trail (first[i]).i (first[i]).x
        have S : St _ _ _ [_, _, _, _] := S.sel [3, 0, 1, 2] _ rfl rfl
        have S := S.drop1
        exact ⟨_, (by omega), (i + 1), (setN now ((first[i]).i) ((first[i]).x)), (setT now trail ((first[i]).i) ((first[i]).x)), B6, d7, rfl, E.keeps [(1, _), (4, _), (5, _), (41, _), (42, _), (43, _)] ⟨rfl, rfl, rfl, rfl, rfl, rfl, trivial⟩, S, (by omega), (by rw [setN_len]; exact hnl), (by omega), setT_ranged hrg hnl⟩
      · skip
        refine Run.lss rfl E rfl rfl rfl rfl (decide_eq_false (by omega)) ?_; clear E a; intro a E
        refine Run.nil ?_
        refine then_n ?_
        refine wp_seq ?_
        refine cond_F E rfl ?_
        refine wp_exit ?_
        refine then_x ?_
        refine then_x ?_
        refine blk_x ?_
        refine then_n ?_
        refine wp_seq ?_
        refine region_plain (n := 6) [(0, .p), (1, .e), (2, .p), (3, .e), (4, .p), (5, .p)] rfl rfl ?_
        refine Run.move rfl E rfl rfl rfl ?_; clear E a; intro a E
        refine Run.call (args := [.pointer (some ⟨g1, 0, none⟩), .int .i64 0, .int .i64 6]) rfl rfl E rfl rfl Try.func51 nm51 rfl rfl (un_part (f := 0) (t := 6) (St.holdsL (A := (Book g1 A2 c3 B d now trail)) (R := []) (S.sel [0, 1, 2] ((Book g1 A2 c3 B d now trail) ++ []) rfl rfl)) (by omega)) ?_; rintro e_ w ⟨A8, c9, rfl, S_⟩; refine ⟨_, rfl, (fun _ => S_.belT), ?_⟩; clear E a; intro a E
        replace S : St _ _ _ [_, .obj _ _ [_, _], _, _] := St.call (A := []) (R := [_, _, _]) S S_; clear S_
        refine Run.move rfl E rfl rfl rfl ?_; clear E a; intro a E
        refine Run.call (args := [.pointer (some ⟨g1, 0, none⟩)]) rfl rfl E rfl rfl Try.func52 nm52 rfl rfl (un_mark (St.holdsL (A := (Book g1 A2 c3 B d now trail)) (R := [_]) (S.sel [1, 2, 3, 0] ((Book g1 A2 c3 B d now trail) ++ [_]) rfl rfl))) ?_; rintro e_ w ⟨rfl, B_⟩; refine ⟨_, rfl, fun _ => B_, ?_⟩; clear E a; replace S := S.bel B_; intro a E
        clear B_
        refine Run.assign rfl E rfl rfl rfl ?_; clear E a; intro a E
        refine Run.assign rfl E rfl rfl rfl ?_; clear E a; intro a E
        refine Run.nil ?_
        refine then_n ?_
        refine wp_seq ?_
        refine wp_seq ?_
        refine region_plain (n := 3) [(0, .p), (1, .p), (2, .p)] rfl rfl ?_
        refine Run.move rfl E rfl rfl rfl ?_; clear E a; intro a E
        refine Run.len rfl E rfl rfl rfl Try.underlying65 ?_; clear E a; intro a E
        refine Run.move rfl E rfl rfl rfl ?_; clear E a; intro a E
        refine Run.nil ?_
        refine then_n ?_
        refine wp_block ?_
        obtain ⟨mk, hmk⟩ : ∃ mk, mk = trail.length := ⟨_, rfl⟩
        have hpa : partOf now 0 6 = now := part_all hnl
        obtain ⟨was, hwas⟩ : ∃ was, was = now := ⟨_, rfl⟩
        rw [hpa] at E S
        have hwl : was.length = 6 := by rw [hwas]; exact hnl
        replace E := E.setv 10 rfl (show Value.int .i64 (trail.length : Int) = .int .i64 (mk : Int) by rw [hmk])
        replace E := E.setv 9 rfl (show Value.slice A8 now.length c9 = .slice A8 was.length c9 by rw [hwas])
        have S : St _ _ _ [_, _, _, _] := S.sel [1, 2, 3, 0] _ rfl rfl
        replace S : St _ _ _ [.obj g1 136 [.slice A2 now.length c3, .slice B trail.length d], .row (.slice A2 now.length c3) 3 1 now.length (ints now), .row (.slice B trail.length d) 138 2 trail.length (notes trail), .row (.slice A8 was.length c9) 3 1 was.length (ints was)] := S.cast (by rw [hwas])
        have hb0 : back (trail.drop mk) now = was := by rw [hmk, List.drop_length, hwas]; rfl
        have hmk2 : mk ≤ 200 := by omega
        have hm0 : mk ≤ trail.length := by omega
        clear hwas hmk hpa
        refine wp_loop_ghost (fun n_ a w => ∃ i : Nat, ∃ now : List Int, ∃ trail : List Note, ∃ B : Option Addr, ∃ d : Nat, then_.length - i = n_ ∧ Env 97 [(4, .bool false), (5, .pointer (some ⟨g1, 0, none⟩)), (9, .slice A8 was.length c9), (10, .int .i64 (mk : Int)), (58, .slice Ath then_.length cth), (59, .int .i64 (then_.length : Int)), (60, .int .i64 (i : Int))] a ∧ St _ _ w [.obj g1 136 [.slice A2 now.length c3, .slice B trail.length d], .row (.slice A2 now.length c3) 3 1 now.length (ints now), .row (.slice B trail.length d) 138 2 trail.length (notes trail), .row (.slice A8 was.length c9) 3 1 was.length (ints was)] ∧ (i ≤ then_.length) ∧ (now.length = 6) ∧ (trail.length ≤ i + 200) ∧ (Ranged 6 trail) ∧ (mk ≤ trail.length) ∧ (back (trail.drop mk) now = was)) _ ⟨0, now, trail, B, d, rfl, E.keeps [(4, _), (5, _), (9, _), (10, _), (58, _), (59, _), (60, _)] ⟨rfl, rfl, rfl, rfl, rfl, rfl, rfl, trivial⟩, S, Nat.zero_le _, hnl, (by omega), hrg, hm0, hb0⟩ ?_
        clear E a S
        rintro n_ a w ⟨i, now, trail, B, d, rfl, E, S, hil, hnl, htl, hrg, hmt, hbk⟩
        refine wp_seq ?_
        refine region_plain (n := 1) [(0, .p)] rfl rfl ?_
        by_cases hlt : i < then_.length
        · skip
          obtain ⟨bB, obB, rfl, hbB⟩ := H2.place (by omega)
          refine Run.lss rfl E rfl rfl rfl rfl (decide_eq_true (by omega)) ?_; clear E a; intro a E
          refine Run.nil ?_
          refine then_n ?_
          refine wp_seq ?_
          refine cond_T E rfl ?_
          refine wp_skip ?_
          refine then_n ?_
          refine wp_seq ?_
          refine wp_block ?_
          refine wp_seq ?_
          refine region_plain (n := 4) [(0, .p), (1, .l), (2, .e), (3, .l)] rfl rfl ?_
          refine Run.indexAddr rfl E rfl rfl rfl rfl Try.underlying65 sz70 (by omega) (ix_at' (m' := i) (by omega)) ?_; clear E a; intro a E
          refine Run.loadN (cs := [.int .i64 ((then_[i]).kind), .int .i64 ((then_[i]).i), .int .i64 ((then_[i]).x)]) rfl rfl E S rfl rfl rfl ag70 rfl (fun _ s_ => rdAtL hbB s_ _ _ (stps_get (List.getElem?_eq_getElem hlt))) ?_; clear E a; intro a E
          refine Run.alloc rfl rfl E S rfl rfl z70 rfl ?_; clear E a S; intro b10 w a E S B_; clear B_
          refine Run.store (news := [.int .i64 ((then_[i]).kind), .int .i64 ((then_[i]).i), .int .i64 ((then_[i]).x)]) (cs' := [_, _, _]) (hp' := [_, _, _, _, _]) 0 rfl E S rfl rfl rfl rfl rfl sz70 rfl rfl rfl rfl ?_; clear S; intro w S
          refine Run.nil ?_
          refine then_n ?_
          refine region_plain (n := 6) [(0, .p), (1, .p), (2, .l), (3, .p), (4, .l), (5, .l)] rfl rfl ?_
          refine Run.move rfl E rfl rfl rfl ?_; clear E a; intro a E
          refine Run.fieldAddr rfl E rfl rfl rfl fo70_1 (rfl) ?_; clear E a; intro a E
          refine Run.load1 rfl rfl E S rfl rfl rfl one3 (fun _ s => s.objCell 0 1 rfl rfl) ?_; clear E a; intro a E
          refine Run.fieldAddr rfl E rfl rfl rfl fo70_2 (rfl) ?_; clear E a; intro a E
          refine Run.load1 rfl rfl E S rfl rfl rfl one3 (fun _ s => s.objCell 0 2 rfl rfl) ?_; clear E a; intro a E
          replace S : St _ _ _ [.obj _ _ [_, _], _, _, .obj _ _ [_, _, _], _] := S.sel [1, 2, 3, 0, 4] _ rfl rfl
          refine Run.call (args := [.pointer (some ⟨g1, 0, none⟩), .int .i64 ((then_[i]).i), .int .i64 ((then_[i]).x)]) rfl rfl E rfl rfl Try.func50 nm50 rfl rfl (un_set_any (i := (then_[i]).i) (x := (then_[i]).x) (St.ownL (A := (Book g1 A2 c3 B d now trail)) (R := [_, _]) S) (by omega) (by omega)) ?_; rintro e_ w ⟨b11, B12, d13, rfl, -, S_⟩; refine ⟨_, rfl, (fun h => by cases h), ?_⟩; clear E a; intro a E
          replace S : St _ _ _ [.obj _ _ [_, _], _, _, .obj _ _ [_, _, _], _] := St.call (A := (Book g1 A2 c3 B d now trail)) (R := [_, _]) S S_; clear S_
          refine Run.nil ?_
          refine blk_n ?_
          refine then_n ?_
          refine region_plain (n := 2) [(0, .p), (1, .p)] rfl rfl ?_
          refine Run.add rfl E rfl rfl rfl rfl (i64_ok (by omega)) ?_; clear E a; intro a E
          refine Run.move rfl E rfl rfl rfl ?_; clear E a; intro a E
          refine Run.nil ?_
          refine then_n ?_
          replace E := E.setv 60 rfl (show Value.int .i64 ((i : Int) + 1) = .int .i64 ((i + 1 : Nat) : Int) from rfl)
          have hT := setT_len now trail (then_[i]).i (then_[i]).x
          have hG := setT_ge now trail (then_[i]).i (then_[i]).x
          have S : St _ _ _ [_, _, _, _, _] := S.sel [3, 0, 1, 2, 4] _ rfl rfl
          have S := S.drop1
          exact ⟨_, (by omega), (i + 1), (setN now ((then_[i]).i) ((then_[i]).x)), (setT now trail ((then_[i]).i) ((then_[i]).x)), B12, d13, rfl, E.keeps [(4, _), (5, _), (9, _), (10, _), (58, _), (59, _), (60, _)] ⟨rfl, rfl, rfl, rfl, rfl, rfl, rfl, trivial⟩, S, (by omega), (by rw [setN_len]; exact hnl), (by omega), setT_ranged hrg hnl, (by omega), setT_back hmt hbk⟩
        · skip
          refine Run.lss rfl E rfl rfl rfl rfl (decide_eq_false (by omega)) ?_; clear E a; intro a E
          refine Run.nil ?_
          refine then_n ?_
          refine wp_seq ?_
          refine cond_F E rfl ?_
          refine wp_exit ?_
          refine then_x ?_
          refine then_x ?_
          refine blk_x ?_
          refine then_n ?_
          refine wp_seq ?_
          refine region_plain (n := 27) [(0, .p), (1, .e), (2, .p), (3, .p), (4, .p), (5, .p), (6, .p), (7, .l), (8, .p), (9, .p), (10, .p), (11, .e), (12, .p), (13, .p), (14, .p), (15, .p), (16, .p), (17, .e), (18, .p), (19, .e), (20, .p), (21, .p), (22, .p), (23, .p), (24, .p), (25, .p), (26, .p)] rfl rfl ?_
          refine Run.move rfl E rfl rfl rfl ?_; clear E a; intro a E
          refine Run.call (args := [.pointer (some ⟨g1, 0, none⟩)]) rfl rfl E rfl rfl Try.func52 nm52 rfl rfl (un_mark (St.holdsL (A := (Book g1 A2 c3 B d now trail)) (R := [_]) (S.sel [0, 1, 2, 3] ((Book g1 A2 c3 B d now trail) ++ [_]) rfl rfl))) ?_; rintro e_ w ⟨rfl, B_⟩; refine ⟨_, rfl, fun _ => B_, ?_⟩; clear E a; replace S := S.bel B_; intro a E
          clear B_
          refine Run.move rfl E rfl rfl rfl ?_; clear E a; intro a E
          refine Run.geq rfl E rfl rfl rfl rfl (decide_eq_true (by omega)) ?_; clear E a; intro a E
          refine Run.move rfl E rfl rfl rfl ?_; clear E a; intro a E
          refine Run.move rfl E rfl rfl rfl ?_; clear E a; intro a E
          refine Run.move rfl E rfl rfl rfl ?_; clear E a; intro a E
          refine Run.call (args := [.pointer (some ⟨g1, 0, none⟩), .int .i64 (mk : Int)]) rfl rfl E rfl rfl Try.func53 nm53 rfl rfl (un_undo (k := mk) (St.ownL (A := (Book g1 A2 c3 B d now trail)) (R := [_]) S) (by omega) (by omega) (by omega) (by rw [hnl]; exact hrg)) ?_; rintro e_ w ⟨rfl, S_⟩; refine ⟨_, rfl, (fun h => by cases h), ?_⟩; clear E a; intro a E
          replace S : St _ _ _ [.obj _ _ [_, _], _, _, _] := St.call (A := (Book g1 A2 c3 B d now trail)) (R := [_]) S S_; clear S_
          refine Run.pickT rfl E rfl rfl rfl rfl ?_; clear E a; intro a E
          refine Run.move rfl E rfl rfl rfl ?_; clear E a; intro a E
          refine Run.move rfl E rfl rfl rfl ?_; clear E a; intro a E
          refine Run.call (args := [.pointer (some ⟨g1, 0, none⟩)]) rfl rfl E rfl rfl Try.func52 nm52 rfl rfl (un_mark (St.holdsL (A := (Book g1 A2 c3 B d (back (trail.drop mk) now) (trail.take mk))) (R := [_]) (S.sel [0, 1, 2, 3] ((Book g1 A2 c3 B d (back (trail.drop mk) now) (trail.take mk)) ++ [_]) rfl rfl))) ?_; rintro e_ w ⟨rfl, B_⟩; refine ⟨_, rfl, fun _ => B_, ?_⟩; clear E a; replace S := S.bel B_; intro a E
          clear B_
          refine Run.move rfl E rfl rfl rfl ?_; clear E a; intro a E
          refine Run.eqi rfl E rfl rfl rfl rfl (decide_eq_true (by rw [List.length_take]; omega)) ?_; clear E a; intro a E
          refine Run.pickT rfl E rfl rfl rfl rfl ?_; clear E a; intro a E
          refine Run.move rfl E rfl rfl rfl ?_; clear E a; intro a E
          refine Run.move rfl E rfl rfl rfl ?_; clear E a; intro a E
          have hpb : partOf (back (trail.drop mk) now) 0 6 = was := by rw [hbk]; exact part_all hwl
          refine Run.call (args := [.pointer (some ⟨g1, 0, none⟩), .int .i64 0, .int .i64 6]) rfl rfl E rfl rfl Try.func51 nm51 rfl rfl (un_part (f := 0) (t := 6) (St.holdsL (A := (Book g1 A2 c3 B d (back (trail.drop mk) now) (trail.take mk))) (R := [_]) (S.sel [0, 1, 2, 3] ((Book g1 A2 c3 B d (back (trail.drop mk) now) (trail.take mk)) ++ [_]) rfl rfl)) (by rw [back_len]; omega)) ?_; rintro e_ w ⟨A14, c15, rfl, S_⟩; refine ⟨_, rfl, (fun _ => S_.belT), ?_⟩; clear E a; intro a E
          rw [hpb] at E S_
          replace S : St _ _ _ [_, .obj _ _ [_, _], _, _, _] := St.call (A := []) (R := [_, _, _, _]) S S_; clear S_
          refine Run.move rfl E rfl rfl rfl ?_; clear E a; intro a E
          refine Run.call (args := [.slice A14 was.length c15, .slice A8 was.length c9]) rfl rfl E rfl rfl Try.func54 nm54 rfl rfl (same15_self (S.rd 0 rfl) (S.rd 4 rfl) (by omega)) ?_; rintro e_ w ⟨rfl, B_⟩; refine ⟨_, rfl, fun _ => B_, ?_⟩; clear E a; replace S := S.bel B_; intro a E
          clear B_
          refine Run.pickT rfl E rfl rfl rfl rfl ?_; clear E a; intro a E
          refine Run.move rfl E rfl rfl rfl ?_; clear E a; intro a E
          refine Run.move rfl E rfl rfl rfl ?_; clear E a; intro a E
          refine Run.len rfl E rfl rfl rfl Try.underlying32 ?_; clear E a; intro a E
          refine Run.eqi rfl E rfl rfl rfl rfl (decide_eq_true (by omega)) ?_; clear E a; intro a E
          refine Run.pickT rfl E rfl rfl rfl rfl ?_; clear E a; intro a E
          refine Run.assign rfl E rfl rfl rfl ?_; clear E a; intro a E
          refine Run.nil ?_
          refine then_n ?_
          refine wp_ret ?_
          exact ret1 E Try.results9 rfl ⟨rfl, S.belT⟩

end
end Go.Proofs.Ytlcglefbhlhcpaa.K
