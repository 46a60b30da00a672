/- UndoParts walked. -/
import Derived.Test.YtlcglefbhlhcpaaKg
import Derived.Test.YtlcglefbhlhcpaaUnL
namespace Go.Proofs.Ytlcglefbhlhcpaa.K
open Go.RowKit
set_option linter.unusedVariables false
set_option maxRecDepth 100000
set_option maxHeartbeats 400000

section
variable {w0 : World} {A B : Option Addr} {c d : Nat}

theorem undoParts_walk {A : Option Addr} {c : Nat} {ops : List Stp} {from_ to_ : Int} (H1 : Rd w0 A ops.length 3 (stps ops)) : Calls Try.prog 10 [.slice A ops.length c, .int .i64 from_, .int .i64 to_].toArray w0 (fun r w' => r = .returned (.bool true) ∧ Bel w0 w') := by
  have S := St.nil [] w0
  refine fn_start Try.func10 rfl 132 rfl rfl [(0, _), (1, _), (2, _)] ⟨rfl, rfl, rfl, trivial⟩ ?_; intro a E
  refine wp_seq ?_
  refine region_plain (n := 1) [(0, .p)] rfl rfl ?_
  refine Run.assign rfl E rfl rfl rfl ?_; clear E a; intro a E
  refine Run.nil ?_
  refine then_n ?_
  refine wp_seq ?_
  refine wp_seq ?_
  refine region_plain (n := 2) [(0, .e), (1, .p)] rfl rfl ?_
  refine Run.call (args := []) rfl rfl E rfl rfl Try.func48 nm48 rfl rfl (anchor15) ?_; rintro e_ w ⟨rfl, B_⟩; refine ⟨_, rfl, fun _ => B_, ?_⟩; clear E a; replace S := S.bel B_; intro a E
  clear B_
  refine Run.not rfl E rfl rfl rfl rfl ?_; clear E a; intro a E
  refine Run.nil ?_
  refine then_n ?_
  refine cond_F E rfl ?_
  refine wp_skip ?_
  refine then_n ?_
  refine wp_seq ?_
  refine region_plain (n := 6) [(0, .e), (1, .p), (2, .p), (3, .p), (4, .p), (5, .p)] rfl rfl ?_
  refine Run.call (args := [.int .i64 9, .int .i64 (-1)]) rfl rfl E rfl rfl Try.func49 nm49 rfl rfl (un_new (k := 9) (v := -1) (by decide)) ?_; rintro e_ w ⟨g1, A2, c3, rfl, S_⟩; refine ⟨_, rfl, (fun _ => S_.belT), ?_⟩; clear E a; intro a E
  replace S : St _ _ _ [.obj _ _ [_, _], _, _] := St.call (A := []) (R := []) S S_; clear S_
  refine Run.move rfl E rfl rfl rfl ?_; clear E a; intro a E
  refine Run.extract rfl E rfl rfl rfl rfl ?_; clear E a; intro a E
  refine Run.extract rfl E rfl rfl rfl rfl ?_; clear E a; intro a E
  refine Run.assign rfl E rfl rfl rfl ?_; clear E a; intro a E
  refine Run.assign rfl E rfl rfl rfl ?_; clear E a; intro a E
  refine Run.nil ?_
  refine then_n ?_
  refine wp_seq ?_
  refine wp_seq ?_
  refine region_plain (n := 11) [(0, .p), (1, .p), (2, .p), (3, .p), (4, .p), (5, .p), (6, .p), (7, .p), (8, .p), (9, .p), (10, .p)] rfl rfl ?_
  refine Run.move rfl E rfl rfl rfl ?_; clear E a; intro a E
  refine Run.nei rfl E rfl rfl rfl rfl (b := false) (by decide) ?_; clear E a; intro a E
  refine Run.move rfl E rfl rfl rfl ?_; clear E a; intro a E
  refine Run.move rfl E rfl rfl rfl ?_; clear E a; intro a E
  refine Run.bin (v := .bool false) rfl E rfl rfl rfl rfl (fun _ => by kernel_rfl) ?_; clear E a; intro a E
  refine Run.pickF rfl E rfl rfl rfl rfl ?_; clear E a; intro a E
  refine Run.move rfl E rfl rfl rfl ?_; clear E a; intro a E
  refine Run.move rfl E rfl rfl rfl ?_; clear E a; intro a E
  refine Run.len rfl E rfl rfl rfl Try.underlying65 ?_; clear E a; intro a E
  by_cases hb1 : 200 < (ops.length : Int)
  · skip
    refine Run.gtr rfl E rfl rfl rfl rfl (decide_eq_true (hb1)) ?_; clear E a; intro a E
    refine Run.pickF rfl E rfl rfl rfl rfl ?_; clear E a; intro a E
    refine Run.nil ?_
    refine then_n ?_
    refine cond_T E rfl ?_
    refine wp_seq ?_
    refine region_plain (n := 7) [(0, .p), (1, .p), (2, .p), (3, .p), (4, .p), (5, .p), (6, .p)] rfl rfl ?_
    refine Run.move rfl E rfl rfl rfl ?_; clear E a; intro a E
    refine Run.eqi rfl E rfl rfl rfl rfl (b := true) (by decide) ?_; clear E a; intro a E
    refine Run.move rfl E rfl rfl rfl ?_; clear E a; intro a E
    refine Run.move rfl E rfl rfl rfl ?_; clear E a; intro a E
    refine Run.bin (v := .bool true) rfl E rfl rfl rfl rfl (fun _ => by kernel_rfl) ?_; clear E a; intro a E
    refine Run.pickT rfl E rfl rfl rfl rfl ?_; clear E a; intro a E
    refine Run.assign rfl E rfl rfl rfl ?_; clear E a; intro a E
    refine Run.nil ?_
    refine then_n ?_
    refine wp_ret ?_
    refine then_r ?_
    exact ret1 E Try.results10 rfl ⟨rfl, S.belT⟩
  · skip
    refine Run.gtr rfl E rfl rfl rfl rfl (decide_eq_false (hb1)) ?_; clear E a; intro a E
    refine Run.pickF rfl E rfl rfl rfl rfl ?_; clear E a; intro a E
    refine Run.nil ?_
    refine then_n ?_
    refine cond_F E rfl ?_
    refine wp_skip ?_
    refine then_n ?_
    refine wp_seq ?_
    refine wp_seq ?_
    refine region_plain (n := 3) [(0, .p), (1, .p), (2, .p)] rfl rfl ?_
    refine Run.move rfl E rfl rfl rfl ?_; clear E a; intro a E
    refine Run.len rfl E rfl rfl rfl Try.underlying65 ?_; clear E a; intro a E
    refine Run.move rfl E rfl rfl rfl ?_; clear E a; intro a E
    refine Run.nil ?_
    refine then_n ?_
    refine wp_block ?_
    refine wp_loop_ghost (fun n_ a w => ∃ i : Nat, ∃ now : List Int, ∃ trail : List Note, ∃ B : Option Addr, ∃ d : Nat, ops.length - i = n_ ∧ Env 132 [(1, .int .i64 from_), (2, .int .i64 to_), (6, .bool false), (7, .pointer (some ⟨g1, 0, none⟩)), (45, .slice A ops.length c), (46, .int .i64 (ops.length : Int)), (47, .int .i64 (i : Int))] a ∧ St _ _ w [.obj g1 136 [.slice A2 now.length c3, .slice B trail.length d], .row (.slice A2 now.length c3) 3 1 now.length (ints now), .row (.slice B trail.length d) 138 2 trail.length (notes trail)] ∧ (i ≤ ops.length) ∧ (now.length = 9) ∧ (trail.length ≤ i)) _ ⟨0, (List.replicate 9 (-1)), ([] : List Note), none, 0, rfl, E.keeps [(1, _), (2, _), (6, _), (7, _), (45, _), (46, _), (47, _)] ⟨rfl, rfl, rfl, rfl, rfl, rfl, rfl, trivial⟩, S, Nat.zero_le _, (by simp), (by simp)⟩ ?_
    clear E a S
    rintro n_ a w ⟨i, now, trail, B, d, rfl, E, S, hil, hnl, htl⟩
    refine wp_seq ?_
    refine region_plain (n := 1) [(0, .p)] rfl rfl ?_
    by_cases hlt : i < ops.length
    · skip
      obtain ⟨bA, obA, rfl, hbA⟩ := H1.place (by omega)
      refine Run.lss rfl E rfl rfl rfl rfl (decide_eq_true (by omega)) ?_; clear E a; intro a E
      refine Run.nil ?_
      refine then_n ?_
      refine wp_seq ?_
      refine cond_T E rfl ?_
      refine wp_skip ?_
      refine then_n ?_
      refine wp_seq ?_
      refine wp_block ?_
      refine wp_seq ?_
      refine region_plain (n := 4) [(0, .p), (1, .l), (2, .e), (3, .l)] rfl rfl ?_
      refine Run.indexAddr rfl E rfl rfl rfl rfl Try.underlying65 sz70 (by omega) (ix_at' (m' := i) (by omega)) ?_; clear E a; intro a E
      refine Run.loadN (cs := [.int .i64 ((ops[i]).kind), .int .i64 ((ops[i]).i), .int .i64 ((ops[i]).x)]) rfl rfl E S rfl rfl rfl ag70 rfl (fun _ s_ => rdAtL hbA s_ _ _ (stps_get (List.getElem?_eq_getElem hlt))) ?_; clear E a; intro a E
      refine Run.alloc rfl rfl E S rfl rfl z70 rfl ?_; clear E a S; intro b4 w a E S B_; clear B_
      refine Run.store (news := [.int .i64 ((ops[i]).kind), .int .i64 ((ops[i]).i), .int .i64 ((ops[i]).x)]) (cs' := [_, _, _]) (hp' := [_, _, _, _]) 0 rfl E S rfl rfl rfl rfl rfl sz70 rfl rfl rfl rfl ?_; clear S; intro w S
      refine Run.nil ?_
      refine then_n ?_
      refine region_plain (n := 6) [(0, .p), (1, .p), (2, .l), (3, .p), (4, .l), (5, .l)] rfl rfl ?_
      refine Run.move rfl E rfl rfl rfl ?_; clear E a; intro a E
      refine Run.fieldAddr rfl E rfl rfl rfl fo70_1 (rfl) ?_; clear E a; intro a E
      refine Run.load1 rfl rfl E S rfl rfl rfl one3 (fun _ s => s.objCell 0 1 rfl rfl) ?_; clear E a; intro a E
      refine Run.fieldAddr rfl E rfl rfl rfl fo70_2 (rfl) ?_; clear E a; intro a E
      refine Run.load1 rfl rfl E S rfl rfl rfl one3 (fun _ s => s.objCell 0 2 rfl rfl) ?_; clear E a; intro a E
      replace S : St _ _ _ [.obj _ _ [_, _], _, _, .obj _ _ [_, _, _]] := S.sel [1, 2, 3, 0] _ rfl rfl
      refine Run.call (args := [.pointer (some ⟨g1, 0, none⟩), .int .i64 ((ops[i]).i), .int .i64 ((ops[i]).x)]) rfl rfl E rfl rfl Try.func50 nm50 rfl rfl (un_set_any (i := (ops[i]).i) (x := (ops[i]).x) (St.ownL (A := (Book g1 A2 c3 B d now trail)) (R := [_]) S) (by omega) (by omega)) ?_; rintro e_ w ⟨b5, B6, d7, rfl, -, S_⟩; refine ⟨_, rfl, (fun h => by cases h), ?_⟩; clear E a; intro a E
      replace S : St _ _ _ [.obj _ _ [_, _], _, _, .obj _ _ [_, _, _]] := St.call (A := (Book g1 A2 c3 B d now trail)) (R := [_]) S S_; clear S_
      refine Run.nil ?_
      refine blk_n ?_
      refine then_n ?_
      refine region_plain (n := 2) [(0, .p), (1, .p)] rfl rfl ?_
      refine Run.add rfl E rfl rfl rfl rfl (i64_ok (by omega)) ?_; clear E a; intro a E
      refine Run.move rfl E rfl rfl rfl ?_; clear E a; intro a E
      refine Run.nil ?_
      refine then_n ?_
      replace E := E.setv 47 rfl (show Value.int .i64 ((i : Int) + 1) = .int .i64 ((i + 1 : Nat) : Int) from rfl)
      have hT := setT_len now trail (ops[i]).i (ops[i]).x
      have S : St _ _ _ [_, _, _, _] := S.sel [3, 0, 1, 2] _ rfl rfl
      have S := S.drop1
      exact ⟨_, (by omega), (i + 1), (setN now ((ops[i]).i) ((ops[i]).x)), (setT now trail ((ops[i]).i) ((ops[i]).x)), B6, d7, rfl, E.keeps [(1, _), (2, _), (6, _), (7, _), (45, _), (46, _), (47, _)] ⟨rfl, rfl, rfl, rfl, rfl, rfl, rfl, trivial⟩, S, (by omega), (by rw [setN_len]; exact hnl), (by omega)⟩
    · skip
      refine Run.lss rfl E rfl rfl rfl rfl (decide_eq_false (by omega)) ?_; clear E a; intro a E
      refine Run.nil ?_
      refine then_n ?_
      refine wp_seq ?_
      refine cond_F E rfl ?_
      refine wp_exit ?_
      refine then_x ?_
      refine then_x ?_
      refine blk_x ?_
      refine then_n ?_
      refine wp_seq ?_
      refine region_plain (n := 5) [(0, .p), (1, .p), (2, .p), (3, .e), (4, .p)] rfl rfl ?_
      refine Run.move rfl E rfl rfl rfl ?_; clear E a; intro a E
      refine Run.move rfl E rfl rfl rfl ?_; clear E a; intro a E
      refine Run.move rfl E rfl rfl rfl ?_; clear E a; intro a E
      refine Run.call (args := [.pointer (some ⟨g1, 0, none⟩), .int .i64 from_, .int .i64 to_]) rfl rfl E rfl rfl Try.func51 nm51 rfl rfl (un_part (f := from_) (t := to_) (St.holdsL (A := (Book g1 A2 c3 B d now trail)) (R := []) (S.sel [0, 1, 2] ((Book g1 A2 c3 B d now trail) ++ []) rfl rfl)) (by omega)) ?_; rintro e_ w ⟨A8, c9, rfl, S_⟩; refine ⟨_, rfl, (fun _ => S_.belT), ?_⟩; clear E a; intro a E
      replace S : St _ _ _ [_, .obj _ _ [_, _], _, _] := St.call (A := []) (R := [_, _, _]) S S_; clear S_
      refine Run.assign rfl E rfl rfl rfl ?_; clear E a; intro a E
      refine Run.nil ?_
      refine then_n ?_
      refine wp_seq ?_
      refine region_plain (n := 1) [(0, .p)] rfl rfl ?_
      refine Run.assign rfl E rfl rfl rfl ?_; clear E a; intro a E
      refine Run.nil ?_
      refine then_n ?_
      refine wp_seq ?_
      refine wp_seq ?_
      refine region_plain (n := 1) [(0, .p)] rfl rfl ?_
      refine Run.move rfl E rfl rfl rfl ?_; clear E a; intro a E
      refine Run.nil ?_
      refine then_n ?_
      refine wp_block ?_
      clear hil htl
      have S : St _ _ _ [_, _, _, _] := S.sel [1, 2, 3, 0] _ rfl rfl
      have hpl := part_len hnl from_ to_
      refine wp_loop_ghost (fun n_ a w => ∃ i : Nat, ∃ n : Nat, ∃ xs : List Value, 9 - i = n_ ∧ Env 132 [(1, .int .i64 from_), (2, .int .i64 to_), (7, .pointer (some ⟨g1, 0, none⟩)), (11, .slice A8 ((partOf now from_ to_).length) c9), (12, .int .i64 (n : Int)), (62, .int .i64 (i : Int))] a ∧ St _ _ w [.obj g1 136 [.slice A2 now.length c3, .slice B trail.length d], .row (.slice A2 now.length c3) 3 1 now.length (ints now), .row (.slice B trail.length d) 138 2 trail.length (notes trail), .row (.slice A8 ((partOf now from_ to_).length) c9) 3 1 ((partOf now from_ to_).length) xs] ∧ (i ≤ 9) ∧ ((n : Int) = max 0 (min (i : Int) (min to_ ((9 : Nat) : Int)) - max from_ 0)) ∧ (∀ j, n ≤ j → xs[j]? = (ints (partOf now from_ to_))[j]?)) _ ⟨0, 0, (ints (partOf now from_ to_)), rfl, E.keeps [(1, _), (2, _), (7, _), (11, _), (12, _), (62, _)] ⟨rfl, rfl, rfl, rfl, rfl, rfl, trivial⟩, S, Nat.zero_le _, (by omega), (fun j _ => rfl)⟩ ?_
      clear E a S
      rintro n_ a w ⟨i, n, xs, rfl, E, S, hi9, hn, hx⟩
      refine wp_seq ?_
      refine region_plain (n := 1) [(0, .p)] rfl rfl ?_
      by_cases hlt : i < 9
      · skip
        have hgi : now[i]? = some (now[i]'(by omega)) := List.getElem?_eq_getElem _
        refine Run.lss rfl E rfl rfl rfl rfl (decide_eq_true (by omega)) ?_; clear E a; intro a E
        refine Run.nil ?_
        refine then_n ?_
        refine wp_seq ?_
        refine cond_T E rfl ?_
        refine wp_skip ?_
        refine then_n ?_
        refine wp_seq ?_
        refine wp_block ?_
        refine wp_seq ?_
        refine region_plain (n := 2) [(0, .p), (1, .p)] rfl rfl ?_
        refine Run.move rfl E rfl rfl rfl ?_; clear E a; intro a E
        refine Run.assign rfl E rfl rfl rfl ?_; clear E a; intro a E
        refine Run.nil ?_
        refine then_n ?_
        refine wp_seq ?_
        refine region_plain (n := 8) [(0, .p), (1, .p), (2, .e), (3, .p), (4, .p), (5, .p), (6, .p), (7, .p)] rfl rfl ?_
        refine Run.move rfl E rfl rfl rfl ?_; clear E a; intro a E
        refine Run.move rfl E rfl rfl rfl ?_; clear E a; intro a E
        refine Run.call (args := [.pointer (some ⟨g1, 0, none⟩), .int .i64 (i : Int)]) rfl rfl E rfl rfl Try.func55 nm55 rfl rfl (un_get (k := i) (x := now[i]'(by omega)) (St.holdsL (A := (Book g1 A2 c3 B d now trail)) (R := [_]) (S.sel [0, 1, 2, 3] ((Book g1 A2 c3 B d now trail) ++ [_]) rfl rfl)) hgi (by omega)) ?_; rintro e_ w ⟨rfl, B_⟩; refine ⟨_, rfl, fun _ => B_, ?_⟩; clear E a; replace S := S.bel B_; intro a E
        clear B_
        refine Run.move rfl E rfl rfl rfl ?_; clear E a; intro a E
        refine Run.extract rfl E rfl rfl rfl rfl ?_; clear E a; intro a E
        refine Run.extract rfl E rfl rfl rfl rfl ?_; clear E a; intro a E
        refine Run.assign rfl E rfl rfl rfl ?_; clear E a; intro a E
        refine Run.assign rfl E rfl rfl rfl ?_; clear E a; intro a E
        refine Run.nil ?_
        refine then_n ?_
        refine wp_seq ?_
        refine wp_seq ?_
        refine region_plain (n := 12) [(0, .p), (1, .p), (2, .p), (3, .p), (4, .p), (5, .p), (6, .p), (7, .p), (8, .p), (9, .p), (10, .p), (11, .p)] rfl rfl ?_
        refine Run.move rfl E rfl rfl rfl ?_; clear E a; intro a E
        refine Run.not rfl E rfl rfl rfl rfl ?_; clear E a; intro a E
        refine Run.move rfl E rfl rfl rfl ?_; clear E a; intro a E
        refine Run.move rfl E rfl rfl rfl ?_; clear E a; intro a E
        refine Run.move rfl E rfl rfl rfl ?_; clear E a; intro a E
        by_cases hfr : (i : Int) < from_
        · skip
          refine Run.lss rfl E rfl rfl rfl rfl (decide_eq_true (by omega)) ?_; clear E a; intro a E
          refine Run.pickF rfl E rfl rfl rfl rfl ?_; clear E a; intro a E
          refine Run.move rfl E rfl rfl rfl ?_; clear E a; intro a E
          refine Run.off rfl E rfl rfl ?_; clear E a; intro a E
          refine Run.off rfl E rfl rfl ?_; clear E a; intro a E
          refine Run.off rfl E rfl rfl ?_; clear E a; intro a E
          refine Run.pickT rfl E rfl rfl rfl rfl ?_; clear E a; intro a E
          refine Run.nil ?_
          refine then_n ?_
          refine cond_T E rfl ?_
          refine wp_exit ?_
          refine then_x ?_
          refine blk_x ?_
          refine then_n ?_
          refine region_plain (n := 2) [(0, .p), (1, .p)] rfl rfl ?_
          refine Run.add rfl E rfl rfl rfl rfl (i64_ok (by omega)) ?_; clear E a; intro a E
          refine Run.move rfl E rfl rfl rfl ?_; clear E a; intro a E
          refine Run.nil ?_
          refine then_n ?_
          replace E := E.setv 62 rfl (show Value.int .i64 ((i : Int) + 1) = .int .i64 ((i + 1 : Nat) : Int) from rfl)
          exact ⟨_, (by omega), (i + 1), n, xs, rfl, E.keeps [(1, _), (2, _), (7, _), (11, _), (12, _), (62, _)] ⟨rfl, rfl, rfl, rfl, rfl, rfl, trivial⟩, S, (by omega), (by omega), hx⟩
        · skip
          refine Run.lss rfl E rfl rfl rfl rfl (decide_eq_false (by omega)) ?_; clear E a; intro a E
          refine Run.pickF rfl E rfl rfl rfl rfl ?_; clear E a; intro a E
          refine Run.move rfl E rfl rfl rfl ?_; clear E a; intro a E
          refine Run.move rfl E rfl rfl rfl ?_; clear E a; intro a E
          refine Run.move rfl E rfl rfl rfl ?_; clear E a; intro a E
          by_cases hto : to_ ≤ (i : Int)
          · skip
            refine Run.geq rfl E rfl rfl rfl rfl (decide_eq_true (by omega)) ?_; clear E a; intro a E
            refine Run.pickF rfl E rfl rfl rfl rfl ?_; clear E a; intro a E
            refine Run.nil ?_
            refine then_n ?_
            refine cond_T E rfl ?_
            refine wp_exit ?_
            refine then_x ?_
            refine blk_x ?_
            refine then_n ?_
            refine region_plain (n := 2) [(0, .p), (1, .p)] rfl rfl ?_
            refine Run.add rfl E rfl rfl rfl rfl (i64_ok (by omega)) ?_; clear E a; intro a E
            refine Run.move rfl E rfl rfl rfl ?_; clear E a; intro a E
            refine Run.nil ?_
            refine then_n ?_
            replace E := E.setv 62 rfl (show Value.int .i64 ((i : Int) + 1) = .int .i64 ((i + 1 : Nat) : Int) from rfl)
            exact ⟨_, (by omega), (i + 1), n, xs, rfl, E.keeps [(1, _), (2, _), (7, _), (11, _), (12, _), (62, _)] ⟨rfl, rfl, rfl, rfl, rfl, rfl, trivial⟩, S, (by omega), (by omega), hx⟩
          · skip
            have hnp : n < (partOf now from_ to_).length := by omega
            have hfi : (max from_ 0).toNat + n = i := by omega
            have hxn : xs[n]? = some (.int .i64 (now[i]'(by omega))) := by rw [hx n (Nat.le_refl _)]; exact ints_get' (by rw [part_get hnp, hfi]; exact hgi)
            have hxl := (S.row 3 rfl).1
            obtain ⟨bL, rfl⟩ := S.rowAddr 3 rfl (by omega)
            refine Run.geq rfl E rfl rfl rfl rfl (decide_eq_false (by omega)) ?_; clear E a; intro a E
            refine Run.pickF rfl E rfl rfl rfl rfl ?_; clear E a; intro a E
            refine Run.nil ?_
            refine then_n ?_
            refine cond_F E rfl ?_
            refine wp_skip ?_
            refine then_n ?_
            refine wp_seq ?_
            refine wp_seq ?_
            refine region_plain (n := 12) [(0, .p), (1, .p), (2, .p), (3, .p), (4, .p), (5, .p), (6, .p), (7, .p), (8, .l), (9, .p), (10, .p), (11, .p)] rfl rfl ?_
            refine Run.move rfl E rfl rfl rfl ?_; clear E a; intro a E
            refine Run.move rfl E rfl rfl rfl ?_; clear E a; intro a E
            refine Run.len rfl E rfl rfl rfl Try.underlying32 ?_; clear E a; intro a E
            refine Run.geq rfl E rfl rfl rfl rfl (decide_eq_false (by omega)) ?_; clear E a; intro a E
            refine Run.move rfl E rfl rfl rfl ?_; clear E a; intro a E
            refine Run.move rfl E rfl rfl rfl ?_; clear E a; intro a E
            refine Run.move rfl E rfl rfl rfl ?_; clear E a; intro a E
            refine Run.indexAddr rfl E rfl rfl rfl rfl Try.underlying32 sz3 (by omega) (ix_at (m' := n) (o := n) (by omega) (Nat.mul_one _)) ?_; clear E a; intro a E
            refine Run.load1 rfl rfl E S rfl rfl rfl one3 (fun _ s_ => s_.rowCell 3 rfl hxn) ?_; clear E a; intro a E
            refine Run.move rfl E rfl rfl rfl ?_; clear E a; intro a E
            refine Run.nei rfl E rfl rfl rfl rfl (decide_eq_false (fun h => h rfl)) ?_; clear E a; intro a E
            refine Run.pickF rfl E rfl rfl rfl rfl ?_; clear E a; intro a E
            refine Run.nil ?_
            refine then_n ?_
            refine cond_F E rfl ?_
            refine wp_skip ?_
            refine then_n ?_
            refine wp_seq ?_
            refine region_plain (n := 4) [(0, .p), (1, .p), (2, .p), (3, .l)] rfl rfl ?_
            refine Run.move rfl E rfl rfl rfl ?_; clear E a; intro a E
            refine Run.move rfl E rfl rfl rfl ?_; clear E a; intro a E
            refine Run.indexAddr rfl E rfl rfl rfl rfl Try.underlying32 sz3 (by omega) (ix_at (m' := n) (o := n) (by omega) (Nat.mul_one _)) ?_; clear E a; intro a E
            refine Run.storeRow (hp' := [_, _, _, _]) 3 rfl E S rfl rfl rfl rfl (by omega) sz3 rfl rfl ?_; clear S; intro w S
            refine Run.nil ?_
            refine then_n ?_
            refine wp_seq ?_
            refine wp_seq ?_
            refine region_plain (n := 8) [(0, .p), (1, .p), (2, .e), (3, .p), (4, .p), (5, .p), (6, .p), (7, .p)] rfl rfl ?_
            refine Run.move rfl E rfl rfl rfl ?_; clear E a; intro a E
            refine Run.move rfl E rfl rfl rfl ?_; clear E a; intro a E
            refine Run.call (args := [.pointer (some ⟨g1, 0, none⟩), .int .i64 (i : Int)]) rfl rfl E rfl rfl Try.func55 nm55 rfl rfl (un_get (k := i) (x := now[i]'(by omega)) (St.holdsL (A := (Book g1 A2 c3 B d now trail)) (R := [_]) (S.sel [0, 1, 2, 3] ((Book g1 A2 c3 B d now trail) ++ [_]) rfl rfl)) hgi (by omega)) ?_; rintro e_ w ⟨rfl, B_⟩; refine ⟨_, rfl, fun _ => B_, ?_⟩; clear E a; replace S := S.bel B_; intro a E
            clear B_
            refine Run.move rfl E rfl rfl rfl ?_; clear E a; intro a E
            refine Run.extract rfl E rfl rfl rfl rfl ?_; clear E a; intro a E
            refine Run.extract rfl E rfl rfl rfl rfl ?_; clear E a; intro a E
            refine Run.assign rfl E rfl rfl rfl ?_; clear E a; intro a E
            refine Run.assign rfl E rfl rfl rfl ?_; clear E a; intro a E
            refine Run.nil ?_
            refine then_n ?_
            refine wp_seq ?_
            refine region_plain (n := 3) [(0, .p), (1, .p), (2, .p)] rfl rfl ?_
            refine Run.move rfl E rfl rfl rfl ?_; clear E a; intro a E
            refine Run.move rfl E rfl rfl rfl ?_; clear E a; intro a E
            refine Run.nei rfl E rfl rfl rfl rfl (decide_eq_false (fun h => h rfl)) ?_; clear E a; intro a E
            refine Run.nil ?_
            refine then_n ?_
            refine cond_F E rfl ?_
            refine wp_skip ?_
            refine then_n ?_
            refine region_plain (n := 3) [(0, .p), (1, .p), (2, .p)] rfl rfl ?_
            refine Run.move rfl E rfl rfl rfl ?_; clear E a; intro a E
            refine Run.add rfl E rfl rfl rfl rfl (i64_ok (by omega)) ?_; clear E a; intro a E
            refine Run.assign rfl E rfl rfl rfl ?_; clear E a; intro a E
            refine Run.nil ?_
            refine blk_n ?_
            refine then_n ?_
            refine region_plain (n := 2) [(0, .p), (1, .p)] rfl rfl ?_
            refine Run.add rfl E rfl rfl rfl rfl (i64_ok (by omega)) ?_; clear E a; intro a E
            refine Run.move rfl E rfl rfl rfl ?_; clear E a; intro a E
            refine Run.nil ?_
            refine then_n ?_
            replace E := E.setv 62 rfl (show Value.int .i64 ((i : Int) + 1) = .int .i64 ((i + 1 : Nat) : Int) from rfl)
            replace E := E.setv 12 rfl (show Value.int .i64 ((n : Int) + 1) = .int .i64 ((n + 1 : Nat) : Int) from rfl)
            exact ⟨_, (by omega), (i + 1), (n + 1), xs.set n (.int .i64 99), rfl, E.keeps [(1, _), (2, _), (7, _), (11, _), (12, _), (62, _)] ⟨rfl, rfl, rfl, rfl, rfl, rfl, trivial⟩, S, (by omega), (by omega), (fun j hj => by rw [List.getElem?_set_ne (by omega)]; exact hx j (by omega))⟩
      · skip
        have hi99 : i = 9 := by omega
        refine Run.lss rfl E rfl rfl rfl rfl (decide_eq_false (by omega)) ?_; clear E a; intro a E
        refine Run.nil ?_
        refine then_n ?_
        refine wp_seq ?_
        refine cond_F E rfl ?_
        refine wp_exit ?_
        refine then_x ?_
        refine then_x ?_
        refine blk_x ?_
        refine then_n ?_
        refine wp_seq ?_
        refine region_plain (n := 7) [(0, .p), (1, .e), (2, .p), (3, .p), (4, .p), (5, .p), (6, .p)] rfl rfl ?_
        refine Run.move rfl E rfl rfl rfl ?_; clear E a; intro a E
        refine Run.call (args := [.pointer (some ⟨g1, 0, none⟩), .int .i64 9]) rfl rfl E rfl rfl Try.func55 nm55 rfl rfl (un_get_high (i := 9) (St.holdsL (A := (Book g1 A2 c3 B d now trail)) (R := [_]) (S.sel [0, 1, 2, 3] ((Book g1 A2 c3 B d now trail) ++ [_]) rfl rfl)) (by decide) (by omega)) ?_; rintro e_ w ⟨rfl, B_⟩; refine ⟨_, rfl, fun _ => B_, ?_⟩; clear E a; replace S := S.bel B_; intro a E
        clear B_
        refine Run.move rfl E rfl rfl rfl ?_; clear E a; intro a E
        refine Run.extract rfl E rfl rfl rfl rfl ?_; clear E a; intro a E
        refine Run.extract rfl E rfl rfl rfl rfl ?_; clear E a; intro a E
        refine Run.assign rfl E rfl rfl rfl ?_; clear E a; intro a E
        refine Run.assign rfl E rfl rfl rfl ?_; clear E a; intro a E
        refine Run.nil ?_
        refine then_n ?_
        refine wp_seq ?_
        refine region_plain (n := 7) [(0, .p), (1, .e), (2, .p), (3, .p), (4, .p), (5, .p), (6, .p)] rfl rfl ?_
        refine Run.move rfl E rfl rfl rfl ?_; clear E a; intro a E
        refine Run.call (args := [.pointer (some ⟨g1, 0, none⟩), .int .i64 (-1)]) rfl rfl E rfl rfl Try.func55 nm55 rfl rfl (un_get_low (i := -1) (St.holdsL (A := (Book g1 A2 c3 B d now trail)) (R := [_]) (S.sel [0, 1, 2, 3] ((Book g1 A2 c3 B d now trail) ++ [_]) rfl rfl)) (by decide)) ?_; rintro e_ w ⟨rfl, B_⟩; refine ⟨_, rfl, fun _ => B_, ?_⟩; clear E a; replace S := S.bel B_; intro a E
        clear B_
        refine Run.move rfl E rfl rfl rfl ?_; clear E a; intro a E
        refine Run.extract rfl E rfl rfl rfl rfl ?_; clear E a; intro a E
        refine Run.extract rfl E rfl rfl rfl rfl ?_; clear E a; intro a E
        refine Run.assign rfl E rfl rfl rfl ?_; clear E a; intro a E
        refine Run.assign rfl E rfl rfl rfl ?_; clear E a; intro a E
        refine Run.nil ?_
        refine then_n ?_
        refine wp_seq ?_
        refine region_plain (n := 13) [(0, .p), (1, .p), (2, .p), (3, .p), (4, .p), (5, .p), (6, .p), (7, .p), (8, .p), (9, .p), (10, .p), (11, .p), (12, .p)] rfl rfl ?_
        refine Run.move rfl E rfl rfl rfl ?_; clear E a; intro a E
        refine Run.move rfl E rfl rfl rfl ?_; clear E a; intro a E
        refine Run.len rfl E rfl rfl rfl Try.underlying32 ?_; clear E a; intro a E
        refine Run.eqi rfl E rfl rfl rfl rfl (decide_eq_true (by omega)) ?_; clear E a; intro a E
        refine Run.move rfl E rfl rfl rfl ?_; clear E a; intro a E
        refine Run.move rfl E rfl rfl rfl ?_; clear E a; intro a E
        refine Run.not rfl E rfl rfl rfl rfl ?_; clear E a; intro a E
        refine Run.pickT rfl E rfl rfl rfl rfl ?_; clear E a; intro a E
        refine Run.move rfl E rfl rfl rfl ?_; clear E a; intro a E
        refine Run.move rfl E rfl rfl rfl ?_; clear E a; intro a E
        refine Run.not rfl E rfl rfl rfl rfl ?_; clear E a; intro a E
        refine Run.pickT rfl E rfl rfl rfl rfl ?_; clear E a; intro a E
        refine Run.assign rfl E rfl rfl rfl ?_; clear E a; intro a E
        refine Run.nil ?_
        refine then_n ?_
        refine wp_ret ?_
        exact ret1 E Try.results10 rfl ⟨rfl, S.belT⟩

end
end Go.Proofs.Ytlcglefbhlhcpaa.K
