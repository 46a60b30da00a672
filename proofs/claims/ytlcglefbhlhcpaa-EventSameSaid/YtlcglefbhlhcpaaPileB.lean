/- Clear of a pile; where the topmost barrier is; the last of a list; the example of chapter 16. -/
import Derived.Test.YtlcglefbhlhcpaaKg
import Derived.Test.YtlcglefbhlhcpaaKh
import Derived.Test.YtlcglefbhlhcpaaPileA
import Derived.Test.YtlcglefbhlhcpaaPileP
namespace Go.Proofs.Ytlcglefbhlhcpaa.K
open Go.RowKit
set_option linter.unusedVariables false
set_option maxRecDepth 100000

section
variable {w0 : World} {g c d : Nat} {A B : Option Addr} {lim most : Int} {l : List Ent} {bars : List Int} {e : Ent}

theorem pile_clear (H : Own w0 (Pile g A c B d lim most l bars)) : Calls Try.prog 47 [.pointer (some ⟨g, 0, none⟩)].toArray w0 (fun r w' => r = .returned (.tuple #[]) ∧ St (fps (Pile g A c B d lim most l bars)) w0 w' (Pile g A c B d lim most [] [])) := by
  have S := H.st
  unfold Pile at S
  refine fn_start Try.func47 rfl 22 rfl rfl [(0, _)] ⟨rfl, trivial⟩ ?_; intro a E
  refine wp_seq ?_
  refine region_plain (n := 5) [(0, .p), (1, .p), (2, .p), (3, .l), (4, .l)] rfl rfl ?_
  refine Run.move rfl E rfl rfl rfl ?_; clear E a; intro a E
  refine Run.nilCheck rfl E rfl rfl rfl ?_; clear E a; intro a E
  refine Run.fieldAddr rfl E rfl rfl rfl fo130_2 (rfl) ?_; clear E a; intro a E
  refine Run.load1 rfl rfl E S rfl rfl rfl one38 (fun _ s => s.objCell 0 2 rfl rfl) ?_; clear E a; intro a E
  refine Run.clear 1 rfl E S rfl rfl rfl Try.underlying38 I43 rfl rfl ?_; clear S; intro w xs' S
  replace S : St _ _ _ [.obj _ _ [_, _, _, _], _, _] := S
  refine Run.nil ?_
  refine then_n ?_
  refine region_drawS (n := 18) [(0, .p), (1, .p), (2, .p), (3, .p), (4, .p), (7, .p), (8, .p), (9, .p), (5, .t), (6, .p), (10, .t), (11, .p), (12, .p), (13, .p), (14, .l), (15, .p), (16, .p), (17, .l)] [0, 0, 0, 4, 12, 28, 60, 0, 128, 384, 896, 1920, 2045, 6141, 14333, 32767, 65535, 131071] S mixed rfl rfl (by kernel_rfl) (fun _ _ _ _ _ h => h) ?_; clear S; intro w S B_; clear B_
  refine Run.move rfl E rfl rfl rfl ?_; clear E a; intro a E
  refine Run.move rfl E rfl rfl rfl ?_; clear E a; intro a E
  refine Run.move rfl E rfl rfl rfl ?_; clear E a; intro a E
  refine Run.nilCheck rfl E rfl rfl rfl ?_; clear E a; intro a E
  refine Run.fieldAddr rfl E rfl rfl rfl fo130_2 (rfl) ?_; clear E a; intro a E
  refine Run.move rfl E rfl rfl rfl ?_; clear E a; intro a E
  refine Run.nilCheck rfl E rfl rfl rfl ?_; clear E a; intro a E
  refine Run.fieldAddr rfl E rfl rfl rfl fo130_3 (rfl) ?_; clear E a; intro a E
  refine Run.load1 rfl rfl E S rfl rfl rfl one38 (fun _ s => s.objCell 0 2 rfl rfl) ?_; clear E a; intro a E
  refine Run.sliceH rfl E rfl rfl rfl rfl Try.underlying38 sz43 (by omega) (q := 0) (rfl) ?_; clear E a; intro a E
  refine Run.load1 rfl rfl E S rfl rfl rfl one32 (fun _ s => s.objCell 0 3 rfl rfl) ?_; clear E a; intro a E
  refine Run.sliceH rfl E rfl rfl rfl rfl Try.underlying32 sz3 (by omega) (q := 0) (rfl) ?_; clear E a; intro a E
  refine Run.nilCheck rfl E rfl rfl rfl ?_; clear E a; intro a E
  refine Run.fieldAddr rfl E rfl rfl rfl fo130_2 (rfl) ?_; clear E a; intro a E
  refine Run.store (news := [.slice A 0 c]) (cs' := [_, _, _, _]) (hp' := [_, _, _]) 0 rfl E S rfl rfl rfl rfl rfl sz38 rfl rfl rfl rfl ?_; clear S; intro w S
  replace S : St _ _ _ [.obj _ _ [_, _, _, _], _, _] := S.rowTake (hp' := [_, _, _]) 1 0 rfl (Nat.zero_le _) rfl
  refine Run.nilCheck rfl E rfl rfl rfl ?_; clear E a; intro a E
  refine Run.fieldAddr rfl E rfl rfl rfl fo130_3 (rfl) ?_; clear E a; intro a E
  refine Run.store (news := [.slice B 0 d]) (cs' := [_, _, _, _]) (hp' := [_, _, _]) 0 rfl E S rfl rfl rfl rfl rfl sz32 rfl rfl rfl rfl ?_; clear S; intro w S
  replace S : St _ _ _ [.obj _ _ [_, _, _, _], _, _] := S.rowTake (hp' := [_, _, _]) 2 0 rfl (Nat.zero_le _) rfl
  refine Run.nil ?_
  exact ret0 E Try.results47 ⟨rfl, S⟩

theorem bar_step {i : Nat} (h : i < l.length) : barAt (l.take (i + 1)) = if (l[i]).bar = true then (i : Int) else barAt (l.take i) := by
  rw [List.take_succ_eq_append_getElem h, barAt_snoc]
  simp [Nat.min_eq_left (Nat.le_of_lt h)]

theorem law_bar (H : Rd w0 A l.length 6 (ents l)) (hl : l.length ≤ 140737488355328) : Calls Try.prog 33 [.slice A l.length c].toArray w0 (fun r w' => r = .returned (.int .i64 (barAt l)) ∧ Bel w0 w') := by
  have S := St.nil [] w0
  refine fn_start Try.func33 rfl 18 rfl rfl [(0, _)] ⟨rfl, trivial⟩ ?_; intro a E
  refine wp_seq ?_
  refine region_plain (n := 1) [(0, .p)] rfl rfl ?_
  refine Run.assign rfl E rfl rfl rfl ?_; clear E a; intro a E
  refine Run.nil ?_
  refine then_n ?_
  refine wp_seq ?_
  refine region_plain (n := 1) [(0, .p)] rfl rfl ?_
  refine Run.assign rfl E rfl rfl rfl ?_; clear E a; intro a E
  refine Run.nil ?_
  refine then_n ?_
  refine wp_seq ?_
  refine wp_seq ?_
  refine region_plain (n := 3) [(0, .p), (1, .p), (2, .p)] rfl rfl ?_
  refine Run.move rfl E rfl rfl rfl ?_; clear E a; intro a E
  refine Run.len rfl E rfl rfl rfl Try.underlying38 ?_; clear E a; intro a E
  refine Run.move rfl E rfl rfl rfl ?_; clear E a; intro a E
  refine Run.nil ?_
  refine then_n ?_
  refine wp_block ?_
  refine wp_loop_ghost (fun n a w => ∃ i : Nat, l.length - i = n ∧ Env 18 [(2, .int .i64 0), (3, .int .i64 (barAt (l.take i))), (6, .slice A l.length c), (7, .int .i64 (l.length : Int)), (8, .int .i64 (i : Int))] a ∧ St _ _ w [] ∧ (i ≤ l.length)) _ ⟨0, rfl, E.keeps [(2, _), (3, _), (6, _), (7, _), (8, _)] ⟨rfl, rfl, rfl, rfl, rfl, trivial⟩, S, Nat.zero_le _⟩ ?_
  clear E a S
  rintro n_ a w ⟨i, rfl, E, S, hi⟩
  refine wp_seq ?_
  refine region_plain (n := 1) [(0, .p)] rfl rfl ?_
  by_cases hlt : i < l.length
  · skip
    obtain ⟨bA, oA, rfl, hA⟩ := H.place (by omega)
    refine Run.lss rfl E rfl rfl rfl rfl (decide_eq_true (by omega)) ?_; clear E a; intro a E
    refine Run.nil ?_
    refine then_n ?_
    refine wp_seq ?_
    refine cond_T E rfl ?_
    refine wp_skip ?_
    refine then_n ?_
    refine wp_seq ?_
    refine wp_block ?_
    refine wp_seq ?_
    refine region_plain (n := 6) [(0, .p), (1, .p), (2, .l), (3, .e), (4, .p), (5, .l)] rfl rfl ?_
    refine Run.move rfl E rfl rfl rfl ?_; clear E a; intro a E
    refine Run.indexAddr rfl E rfl rfl rfl rfl Try.underlying38 sz43 (by omega) (ix_at' (m' := i) (by omega)) ?_; clear E a; intro a E
    refine Run.loadN (cs := [.bool ((l[i]).bar), .int .i64 ((l[i]).pc), .int .i64 ((l[i]).pos), .int .i64 ((l[i]).mark), .int .i64 ((l[i]).org), .int .i64 ((l[i]).val)]) rfl rfl E S rfl rfl rfl ag43 rfl (fun _ s => rdAtL hA s _ _ (ents_get (List.getElem?_eq_getElem hlt))) ?_; clear E a; intro a E
    refine Run.alloc rfl rfl E S rfl rfl z43 rfl ?_; clear E a S; intro b1 w a E S B_; clear B_
    refine Run.assign rfl E rfl rfl rfl ?_; clear E a; intro a E
    refine Run.store (news := [.bool ((l[i]).bar), .int .i64 ((l[i]).pc), .int .i64 ((l[i]).pos), .int .i64 ((l[i]).mark), .int .i64 ((l[i]).org), .int .i64 ((l[i]).val)]) (cs' := [_, _, _, _, _, _]) (hp' := [_]) 0 rfl E S rfl rfl rfl rfl rfl sz43 rfl rfl rfl rfl ?_; clear S; intro w S
    refine Run.nil ?_
    refine then_n ?_
    refine wp_seq ?_
    refine region_plain (n := 2) [(0, .p), (1, .l)] rfl rfl ?_
    refine Run.fieldAddr rfl E rfl rfl rfl fo43_0 (rfl) ?_; clear E a; intro a E
    refine Run.load1 rfl rfl E S rfl rfl rfl one4 (fun _ s => s.objCell 0 0 rfl rfl) ?_; clear E a; intro a E
    refine Run.nil ?_
    refine then_n ?_
    rcases Bool.eq_false_or_eq_true ((l[i]).bar) with hb | hb
    · replace E := E.setb 14 rfl hb
      refine cond_T E rfl ?_
      refine region_plain (n := 2) [(0, .p), (1, .p)] rfl rfl ?_
      refine Run.move rfl E rfl rfl rfl ?_; clear E a; intro a E
      refine Run.assign rfl E rfl rfl rfl ?_; clear E a; intro a E
      refine Run.nil ?_
      refine blk_n ?_
      refine then_n ?_
      refine region_plain (n := 2) [(0, .p), (1, .p)] rfl rfl ?_
      refine Run.add rfl E rfl rfl rfl rfl (i64_ok (by omega)) ?_; clear E a; intro a E
      refine Run.move rfl E rfl rfl rfl ?_; clear E a; intro a E
      refine Run.nil ?_
      refine then_n ?_
      have e1 := bar_step (l := l) (i := i) hlt
      rw [hb, if_pos rfl] at e1
      replace E := E.setv 3 rfl (congrArg (Value.int .i64) e1.symm)
      replace E := E.setv 8 rfl (show Value.int .i64 ((i : Int) + 1) = .int .i64 ((i + 1 : Nat) : Int) from rfl)
      have S : St _ _ _ [_] := S.sel [0] _ rfl rfl
      have S := S.drop1
      exact ⟨_, (by omega), (i + 1), rfl, E.keeps [(2, _), (3, _), (6, _), (7, _), (8, _)] ⟨rfl, rfl, rfl, rfl, rfl, trivial⟩, S, hlt⟩
    · replace E := E.setb 14 rfl hb
      refine cond_F E rfl ?_
      refine wp_skip ?_
      refine blk_n ?_
      refine then_n ?_
      refine region_plain (n := 2) [(0, .p), (1, .p)] rfl rfl ?_
      refine Run.add rfl E rfl rfl rfl rfl (i64_ok (by omega)) ?_; clear E a; intro a E
      refine Run.move rfl E rfl rfl rfl ?_; clear E a; intro a E
      refine Run.nil ?_
      refine then_n ?_
      have e1 := bar_step (l := l) (i := i) hlt
      rw [hb, if_neg (by decide)] at e1
      replace E := E.setv 3 rfl (congrArg (Value.int .i64) e1.symm)
      replace E := E.setv 8 rfl (show Value.int .i64 ((i : Int) + 1) = .int .i64 ((i + 1 : Nat) : Int) from rfl)
      have S : St _ _ _ [_] := S.sel [0] _ rfl rfl
      have S := S.drop1
      exact ⟨_, (by omega), (i + 1), rfl, E.keeps [(2, _), (3, _), (6, _), (7, _), (8, _)] ⟨rfl, rfl, rfl, rfl, rfl, trivial⟩, S, hlt⟩
  · skip
    have e0 : l.take i = l := List.take_of_length_le (by omega)
    rw [e0] at E
    refine Run.lss rfl E rfl rfl rfl rfl (decide_eq_false (by omega)) ?_; clear E a; intro a E
    refine Run.nil ?_
    refine then_n ?_
    refine wp_seq ?_
    refine cond_F E rfl ?_
    refine wp_exit ?_
    refine then_x ?_
    refine then_x ?_
    refine blk_x ?_
    refine then_n ?_
    refine wp_seq ?_
    refine region_plain (n := 2) [(0, .p), (1, .p)] rfl rfl ?_
    refine Run.move rfl E rfl rfl rfl ?_; clear E a; intro a E
    refine Run.assign rfl E rfl rfl rfl ?_; clear E a; intro a E
    refine Run.nil ?_
    refine then_n ?_
    refine wp_ret ?_
    exact ret1 E Try.results33 rfl ⟨rfl, S.belT⟩

theorem law_last_none (H : Rd w0 A l.length 6 (ents l)) (hl : l.length ≤ 140737488355328) (h0 : l.length = 0) : Calls Try.prog 36 [.slice A l.length c].toArray w0 (fun r w' => r = .returned (.agg #[.bool false, .int .i64 0, .int .i64 0, .int .i64 0, .int .i64 0, .int .i64 0]) ∧ Bel w0 w') := by
  have S := St.nil [] w0
  refine fn_start Try.func36 rfl 13 rfl rfl [(0, _)] ⟨rfl, trivial⟩ ?_; intro a E
  refine wp_seq ?_
  refine region_plain (n := 1) [(0, .e)] rfl rfl ?_
  refine Run.alloc rfl rfl E S rfl rfl z43 rfl ?_; clear E a S; intro b1 w a E S B_; clear B_
  refine Run.nil ?_
  refine then_n ?_
  refine wp_seq ?_
  refine wp_seq ?_
  refine region_plain (n := 3) [(0, .p), (1, .p), (2, .p)] rfl rfl ?_
  refine Run.move rfl E rfl rfl rfl ?_; clear E a; intro a E
  refine Run.len rfl E rfl rfl rfl Try.underlying38 ?_; clear E a; intro a E
  refine Run.eqi rfl E rfl rfl rfl rfl (decide_eq_true (by omega)) ?_; clear E a; intro a E
  refine Run.nil ?_
  refine then_n ?_
  refine cond_T E rfl ?_
  refine wp_seq ?_
  refine region_plain (n := 2) [(0, .p), (1, .l)] rfl rfl ?_
  refine Run.build (cs := #[.bool false, .int .i64 0, .int .i64 0, .int .i64 0, .int .i64 0, .int .i64 0]) [] rfl E rfl rfl rfl rfl ?_; clear E a; intro a E
  refine Run.store (news := [.bool false, .int .i64 0, .int .i64 0, .int .i64 0, .int .i64 0, .int .i64 0]) (cs' := [_, _, _, _, _, _]) (hp' := [_]) 0 rfl E S rfl rfl rfl rfl rfl sz43 rfl rfl rfl rfl ?_; clear S; intro w S
  refine Run.nil ?_
  refine then_n ?_
  refine wp_ret ?_
  refine then_r ?_
  exact retN E (vs := [.agg #[.bool false, .int .i64 0, .int .i64 0, .int .i64 0, .int .i64 0, .int .i64 0]]) Try.results36 (.cell (E.slot _ _ rfl) (run_loadVarAgg ag43 rfl (objAll S 0 rfl)) .nil) rfl ⟨rfl, S.belT⟩

theorem law_last_some (H : Rd w0 A l.length 6 (ents l)) (hl : l.length ≤ 140737488355328) (h0 : 0 < l.length) : Calls Try.prog 36 [.slice A l.length c].toArray w0 (fun r w' => r = .returned (.agg #[.bool ((lastE l).bar), .int .i64 ((lastE l).pc), .int .i64 ((lastE l).pos), .int .i64 ((lastE l).mark), .int .i64 ((lastE l).org), .int .i64 ((lastE l).val)]) ∧ Bel w0 w') := by
  have S := St.nil [] w0
  obtain ⟨bA, oA, rfl, hA⟩ := H.place h0
  refine fn_start Try.func36 rfl 13 rfl rfl [(0, _)] ⟨rfl, trivial⟩ ?_; intro a E
  refine wp_seq ?_
  refine region_plain (n := 1) [(0, .e)] rfl rfl ?_
  refine Run.alloc rfl rfl E S rfl rfl z43 rfl ?_; clear E a S; intro b1 w a E S B_; clear B_
  refine Run.nil ?_
  refine then_n ?_
  refine wp_seq ?_
  refine wp_seq ?_
  refine region_plain (n := 3) [(0, .p), (1, .p), (2, .p)] rfl rfl ?_
  refine Run.move rfl E rfl rfl rfl ?_; clear E a; intro a E
  refine Run.len rfl E rfl rfl rfl Try.underlying38 ?_; clear E a; intro a E
  refine Run.eqi rfl E rfl rfl rfl rfl (decide_eq_false (by omega)) ?_; clear E a; intro a E
  refine Run.nil ?_
  refine then_n ?_
  refine cond_F E rfl ?_
  refine wp_skip ?_
  refine then_n ?_
  refine wp_seq ?_
  refine region_plain (n := 7) [(0, .p), (1, .p), (2, .p), (3, .p), (4, .p), (5, .l), (6, .l)] rfl rfl ?_
  refine Run.move rfl E rfl rfl rfl ?_; clear E a; intro a E
  refine Run.move rfl E rfl rfl rfl ?_; clear E a; intro a E
  refine Run.len rfl E rfl rfl rfl Try.underlying38 ?_; clear E a; intro a E
  refine Run.sub rfl E rfl rfl rfl rfl (i64_ok (by omega)) ?_; clear E a; intro a E
  refine Run.indexAddr rfl E rfl rfl rfl rfl Try.underlying38 sz43 (by omega) (ix_at' (m' := (l.length - 1)) (by omega)) ?_; clear E a; intro a E
  refine Run.loadN (cs := [.bool ((lastE l).bar), .int .i64 ((lastE l).pc), .int .i64 ((lastE l).pos), .int .i64 ((lastE l).mark), .int .i64 ((lastE l).org), .int .i64 ((lastE l).val)]) rfl rfl E S rfl rfl rfl ag43 rfl (fun _ s => rdAtL hA s _ _ (ents_get (lastE_at h0))) ?_; clear E a; intro a E
  refine Run.store (news := [.bool ((lastE l).bar), .int .i64 ((lastE l).pc), .int .i64 ((lastE l).pos), .int .i64 ((lastE l).mark), .int .i64 ((lastE l).org), .int .i64 ((lastE l).val)]) (cs' := [_, _, _, _, _, _]) (hp' := [_]) 0 rfl E S rfl rfl rfl rfl rfl sz43 rfl rfl rfl rfl ?_; clear S; intro w S
  refine Run.nil ?_
  refine then_n ?_
  refine wp_ret ?_
  exact retN E (vs := [.agg #[.bool ((lastE l).bar), .int .i64 ((lastE l).pc), .int .i64 ((lastE l).pos), .int .i64 ((lastE l).mark), .int .i64 ((lastE l).org), .int .i64 ((lastE l).val)]]) Try.results36 (.cell (E.slot _ _ rfl) (run_loadVarAgg ag43 rfl (objAll S 0 rfl)) .nil) rfl ⟨rfl, S.belT⟩

theorem law_last (H : Rd w0 A l.length 6 (ents l)) (hl : l.length ≤ 140737488355328) : Calls Try.prog 36 [.slice A l.length c].toArray w0 (fun r w' => r = .returned (.agg #[.bool ((lastE l).bar), .int .i64 ((lastE l).pc), .int .i64 ((lastE l).pos), .int .i64 ((lastE l).mark), .int .i64 ((lastE l).org), .int .i64 ((lastE l).val)]) ∧ Bel w0 w') := by
  rcases Nat.eq_zero_or_pos l.length with h0 | h0
  · have : l = [] := List.eq_nil_of_length_eq_zero h0
    subst this
    exact law_last_none H hl rfl
  · exact law_last_some H hl h0

theorem anchor16 : Calls Try.prog 28 [].toArray w0 (fun r w' => r = .returned (.bool true) ∧ Bel w0 w') := by
  have S := St.nil [] w0
  refine fn_start Try.func28 rfl 60 rfl rfl [] trivial ?_; intro a E
  refine wp_seq ?_
  refine region_plain (n := 1) [(0, .p)] rfl rfl ?_
  refine Run.assign rfl E rfl rfl rfl ?_; clear E a; intro a E
  refine Run.nil ?_
  refine then_n ?_
  refine wp_seq ?_
  refine region_plain (n := 6) [(0, .e), (1, .p), (2, .p), (3, .p), (4, .p), (5, .p)] rfl rfl ?_
  refine Run.call (args := [.int .i64 9]) rfl rfl E rfl rfl Try.func29 nm29 rfl rfl (pile_new (by omega) (by omega)) ?_; rintro e_ w ⟨g1, rfl, S_⟩; refine ⟨_, rfl, (fun _ => S_.belT), ?_⟩; clear E a; intro a E
  replace S : St _ _ _ [.obj _ _ [_, _, _, _], _, _] := St.call (A := []) (R := []) S S_; clear S_
  refine Run.move rfl E rfl rfl rfl ?_; clear E a; intro a E
  refine Run.extract rfl E rfl rfl rfl rfl ?_; clear E a; intro a E
  refine Run.extract rfl E rfl rfl rfl rfl ?_; clear E a; intro a E
  refine Run.assign rfl E rfl rfl rfl ?_; clear E a; intro a E
  refine Run.assign rfl E rfl rfl rfl ?_; clear E a; intro a E
  refine Run.nil ?_
  refine then_n ?_
  refine wp_seq ?_
  refine wp_seq ?_
  refine region_plain (n := 6) [(0, .p), (1, .p), (2, .p), (3, .p), (4, .p), (5, .p)] rfl rfl ?_
  refine Run.move rfl E rfl rfl rfl ?_; clear E a; intro a E
  refine Run.nei rfl E rfl rfl rfl rfl (b := false) (by decide) ?_; clear E a; intro a E
  refine Run.move rfl E rfl rfl rfl ?_; clear E a; intro a E
  refine Run.move rfl E rfl rfl rfl ?_; clear E a; intro a E
  refine Run.bin (v := .bool false) rfl E rfl rfl rfl rfl (fun _ => by kernel_rfl) ?_; clear E a; intro a E
  refine Run.pickF rfl E rfl rfl rfl rfl ?_; clear E a; intro a E
  refine Run.nil ?_
  refine then_n ?_
  refine cond_F E rfl ?_
  refine wp_skip ?_
  refine then_n ?_
  refine wp_seq ?_
  refine region_plain (n := 3) [(0, .p), (1, .p), (2, .l)] rfl rfl ?_
  refine Run.move rfl E rfl rfl rfl ?_; clear E a; intro a E
  refine Run.build (cs := #[.bool false, .int .i64 1, .int .i64 0, .int .i64 0, .int .i64 0, .int .i64 0]) [(1, .int .i64 1)] rfl E rfl rfl rfl rfl ?_; clear E a; intro a E
  refine Run.call (args := [.pointer (some ⟨g1, 0, none⟩), .agg #[.bool false, .int .i64 1, .int .i64 0, .int .i64 0, .int .i64 0, .int .i64 0]]) rfl rfl E rfl rfl Try.func30 nm30 rfl rfl (push_plain (e := (Ent.mk false 1 0 0 0 0)) (mx := 1) (l' := [(Ent.mk false 1 0 0 0 0)]) (St.ownL (A := (Pile g1 none 0 none 0 9 0 ([]) ([]))) (R := []) S) (by decide) (by decide) (by decide) rfl (by decide) rfl) ?_; rintro e_ w ⟨rfl, A2, c3, B4, d5, S_⟩; refine ⟨_, rfl, (fun h => by cases h), ?_⟩; clear E a; intro a E
  replace S : St _ _ _ [.obj _ _ [_, _, _, _], _, _] := St.call (A := (Pile g1 none 0 none 0 9 0 ([]) ([]))) (R := []) S S_; clear S_
  refine Run.nil ?_
  refine then_n ?_
  refine wp_seq ?_
  refine region_plain (n := 3) [(0, .p), (1, .p), (2, .l)] rfl rfl ?_
  refine Run.move rfl E rfl rfl rfl ?_; clear E a; intro a E
  refine Run.build (cs := #[.bool true, .int .i64 2, .int .i64 0, .int .i64 0, .int .i64 0, .int .i64 0]) [(0, .bool true), (1, .int .i64 2)] rfl E rfl rfl rfl rfl ?_; clear E a; intro a E
  refine Run.call (args := [.pointer (some ⟨g1, 0, none⟩), .agg #[.bool true, .int .i64 2, .int .i64 0, .int .i64 0, .int .i64 0, .int .i64 0]]) rfl rfl E rfl rfl Try.func30 nm30 rfl rfl (push_bar (e := (Ent.mk true 2 0 0 0 0)) (mx := 2) (l' := [(Ent.mk false 1 0 0 0 0), (Ent.mk true 2 0 0 0 0)]) (bars' := [1]) (St.ownL (A := (Pile g1 A2 c3 B4 d5 9 1 ([(Ent.mk false 1 0 0 0 0)]) ([]))) (R := []) S) (by decide) (by decide) (by decide) rfl (by decide) rfl rfl) ?_; rintro e_ w ⟨rfl, A6, c7, B8, d9, S_⟩; refine ⟨_, rfl, (fun h => by cases h), ?_⟩; clear E a; intro a E
  replace S : St _ _ _ [.obj _ _ [_, _, _, _], _, _] := St.call (A := (Pile g1 A2 c3 B4 d5 9 1 ([(Ent.mk false 1 0 0 0 0)]) ([]))) (R := []) S S_; clear S_
  refine Run.nil ?_
  refine then_n ?_
  refine wp_seq ?_
  refine region_plain (n := 3) [(0, .p), (1, .p), (2, .l)] rfl rfl ?_
  refine Run.move rfl E rfl rfl rfl ?_; clear E a; intro a E
  refine Run.build (cs := #[.bool false, .int .i64 3, .int .i64 0, .int .i64 0, .int .i64 0, .int .i64 0]) [(1, .int .i64 3)] rfl E rfl rfl rfl rfl ?_; clear E a; intro a E
  refine Run.call (args := [.pointer (some ⟨g1, 0, none⟩), .agg #[.bool false, .int .i64 3, .int .i64 0, .int .i64 0, .int .i64 0, .int .i64 0]]) rfl rfl E rfl rfl Try.func30 nm30 rfl rfl (push_plain (e := (Ent.mk false 3 0 0 0 0)) (mx := 3) (l' := [(Ent.mk false 1 0 0 0 0), (Ent.mk true 2 0 0 0 0), (Ent.mk false 3 0 0 0 0)]) (St.ownL (A := (Pile g1 A6 c7 B8 d9 9 2 ([(Ent.mk false 1 0 0 0 0), (Ent.mk true 2 0 0 0 0)]) ([1]))) (R := []) S) (by decide) (by decide) (by decide) rfl (by decide) rfl) ?_; rintro e_ w ⟨rfl, A10, c11, B12, d13, S_⟩; refine ⟨_, rfl, (fun h => by cases h), ?_⟩; clear E a; intro a E
  replace S : St _ _ _ [.obj _ _ [_, _, _, _], _, _] := St.call (A := (Pile g1 A6 c7 B8 d9 9 2 ([(Ent.mk false 1 0 0 0 0), (Ent.mk true 2 0 0 0 0)]) ([1]))) (R := []) S S_; clear S_
  refine Run.nil ?_
  refine then_n ?_
  refine wp_seq ?_
  refine region_plain (n := 8) [(0, .p), (1, .l), (2, .p), (3, .p), (4, .p), (5, .e), (6, .l), (7, .p)] rfl rfl ?_
  refine Run.move rfl E rfl rfl rfl ?_; clear E a; intro a E
  refine Run.call (args := [.pointer (some ⟨g1, 0, none⟩)]) rfl rfl E rfl rfl Try.func31 nm31 rfl rfl (cut_some (k := 1) (e := (Ent.mk true 2 0 0 0 0)) (St.ownL (A := (Pile g1 A10 c11 B12 d13 9 3 ([(Ent.mk false 1 0 0 0 0), (Ent.mk true 2 0 0 0 0), (Ent.mk false 3 0 0 0 0)]) ([1]))) (R := []) S) (by decide) (by decide) (by decide) rfl rfl) ?_; rintro e_ w ⟨rfl, S_⟩; refine ⟨_, rfl, (fun h => by cases h), ?_⟩; clear E a; intro a E
  replace S : St _ _ _ [.obj _ _ [_, _, _, _], _, _] := St.call (A := (Pile g1 A10 c11 B12 d13 9 3 ([(Ent.mk false 1 0 0 0 0), (Ent.mk true 2 0 0 0 0), (Ent.mk false 3 0 0 0 0)]) ([1]))) (R := []) S S_; clear S_
  refine Run.move rfl E rfl rfl rfl ?_; clear E a; intro a E
  refine Run.extract rfl E rfl rfl rfl rfl ?_; clear E a; intro a E
  refine Run.extract rfl E rfl rfl rfl rfl ?_; clear E a; intro a E
  refine Run.alloc rfl rfl E S rfl rfl z43 rfl ?_; clear E a S; intro b14 w a E S B_; clear B_
  refine Run.store (news := [.bool true, .int .i64 2, .int .i64 0, .int .i64 0, .int .i64 0, .int .i64 0]) (cs' := [_, _, _, _, _, _]) (hp' := [_, _, _, _]) 0 rfl E S rfl rfl rfl rfl rfl sz43 rfl rfl rfl rfl ?_; clear S; intro w S
  refine Run.assign rfl E rfl rfl rfl ?_; clear E a; intro a E
  refine Run.nil ?_
  refine then_n ?_
  refine wp_seq ?_
  refine region_plain (n := 8) [(0, .p), (1, .e), (2, .p), (3, .p), (4, .p), (5, .e), (6, .l), (7, .p)] rfl rfl ?_
  refine Run.move rfl E rfl rfl rfl ?_; clear E a; intro a E
  refine Run.call (args := [.pointer (some ⟨g1, 0, none⟩)]) rfl rfl E rfl rfl Try.func32 nm32 rfl rfl (top_some (e := (Ent.mk false 1 0 0 0 0)) (St.holdsL (A := (Pile g1 A10 c11 B12 d13 9 3 ([(Ent.mk false 1 0 0 0 0)]) ([]))) (R := [_]) (S.sel [1, 2, 3, 0] ((Pile g1 A10 c11 B12 d13 9 3 ([(Ent.mk false 1 0 0 0 0)]) ([])) ++ [_]) rfl rfl)) (by decide) (by decide) rfl) ?_; rintro e_ w ⟨rfl, B_⟩; refine ⟨_, rfl, fun _ => B_, ?_⟩; clear E a; replace S := S.bel B_; intro a E
  clear B_
  refine Run.move rfl E rfl rfl rfl ?_; clear E a; intro a E
  refine Run.extract rfl E rfl rfl rfl rfl ?_; clear E a; intro a E
  refine Run.extract rfl E rfl rfl rfl rfl ?_; clear E a; intro a E
  refine Run.alloc rfl rfl E S rfl rfl z43 rfl ?_; clear E a S; intro b15 w a E S B_; clear B_
  refine Run.store (news := [.bool false, .int .i64 1, .int .i64 0, .int .i64 0, .int .i64 0, .int .i64 0]) (cs' := [_, _, _, _, _, _]) (hp' := [_, _, _, _, _]) 0 rfl E S rfl rfl rfl rfl rfl sz43 rfl rfl rfl rfl ?_; clear S; intro w S
  refine Run.assign rfl E rfl rfl rfl ?_; clear E a; intro a E
  refine Run.nil ?_
  refine then_n ?_
  refine wp_seq ?_
  refine region_plain (n := 25) [(0, .p), (1, .p), (2, .p), (3, .p), (4, .p), (5, .p), (6, .l), (7, .p), (8, .p), (9, .p), (10, .p), (11, .l), (12, .p), (13, .p), (14, .p), (15, .p), (16, .e), (17, .p), (18, .p), (19, .p), (20, .p), (21, .e), (22, .p), (23, .p), (24, .p)] rfl rfl ?_
  refine Run.move rfl E rfl rfl rfl ?_; clear E a; intro a E
  refine Run.move rfl E rfl rfl rfl ?_; clear E a; intro a E
  refine Run.move rfl E rfl rfl rfl ?_; clear E a; intro a E
  refine Run.pickT rfl E rfl rfl rfl rfl ?_; clear E a; intro a E
  refine Run.move rfl E rfl rfl rfl ?_; clear E a; intro a E
  refine Run.fieldAddr rfl E rfl rfl rfl fo43_1 (rfl) ?_; clear E a; intro a E
  refine Run.load1 rfl rfl E S rfl rfl rfl one3 (fun _ s => s.objCell 1 1 rfl rfl) ?_; clear E a; intro a E
  refine Run.eqi rfl E rfl rfl rfl rfl (b := true) (by decide) ?_; clear E a; intro a E
  refine Run.pickT rfl E rfl rfl rfl rfl ?_; clear E a; intro a E
  refine Run.move rfl E rfl rfl rfl ?_; clear E a; intro a E
  refine Run.fieldAddr rfl E rfl rfl rfl fo43_1 (rfl) ?_; clear E a; intro a E
  refine Run.load1 rfl rfl E S rfl rfl rfl one3 (fun _ s => s.objCell 0 1 rfl rfl) ?_; clear E a; intro a E
  refine Run.eqi rfl E rfl rfl rfl rfl (b := true) (by decide) ?_; clear E a; intro a E
  refine Run.pickT rfl E rfl rfl rfl rfl ?_; clear E a; intro a E
  refine Run.move rfl E rfl rfl rfl ?_; clear E a; intro a E
  refine Run.move rfl E rfl rfl rfl ?_; clear E a; intro a E
  refine Run.call (args := [.pointer (some ⟨g1, 0, none⟩)]) rfl rfl E rfl rfl Try.func35 nm35 rfl rfl (pile_len (St.holdsL (A := (Pile g1 A10 c11 B12 d13 9 3 ([(Ent.mk false 1 0 0 0 0)]) ([]))) (R := [_, _]) (S.sel [2, 3, 4, 0, 1] ((Pile g1 A10 c11 B12 d13 9 3 ([(Ent.mk false 1 0 0 0 0)]) ([])) ++ [_, _]) rfl rfl))) ?_; rintro e_ w ⟨rfl, B_⟩; refine ⟨_, rfl, fun _ => B_, ?_⟩; clear E a; replace S := S.bel B_; intro a E
  clear B_
  refine Run.eqi rfl E rfl rfl rfl rfl (decide_eq_true (by rfl)) ?_; clear E a; intro a E
  refine Run.pickT rfl E rfl rfl rfl rfl ?_; clear E a; intro a E
  refine Run.move rfl E rfl rfl rfl ?_; clear E a; intro a E
  refine Run.move rfl E rfl rfl rfl ?_; clear E a; intro a E
  refine Run.call (args := [.pointer (some ⟨g1, 0, none⟩)]) rfl rfl E rfl rfl Try.func46 nm46 rfl rfl (pile_most (St.holdsL (A := (Pile g1 A10 c11 B12 d13 9 3 ([(Ent.mk false 1 0 0 0 0)]) ([]))) (R := [_, _]) (S.sel [2, 3, 4, 0, 1] ((Pile g1 A10 c11 B12 d13 9 3 ([(Ent.mk false 1 0 0 0 0)]) ([])) ++ [_, _]) rfl rfl))) ?_; rintro e_ w ⟨rfl, B_⟩; refine ⟨_, rfl, fun _ => B_, ?_⟩; clear E a; replace S := S.bel B_; intro a E
  clear B_
  refine Run.eqi rfl E rfl rfl rfl rfl (b := true) (by decide) ?_; clear E a; intro a E
  refine Run.pickT rfl E rfl rfl rfl rfl ?_; clear E a; intro a E
  refine Run.assign rfl E rfl rfl rfl ?_; clear E a; intro a E
  refine Run.nil ?_
  refine then_n ?_
  refine wp_ret ?_
  exact ret1 E Try.results28 rfl ⟨rfl, S.belT⟩

end
end Go.Proofs.Ytlcglefbhlhcpaa.K
