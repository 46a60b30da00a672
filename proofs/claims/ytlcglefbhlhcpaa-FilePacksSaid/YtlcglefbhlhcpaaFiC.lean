/- The document's file of states; FilePacks walked. -/
import Derived.Test.YtlcglefbhlhcpaaKg
import Derived.Test.YtlcglefbhlhcpaaFiB
import Derived.Test.YtlcglefbhlhcpaaTaC
import Derived.Test.YtlcglefbhlhcpaaDeD
namespace Go.Proofs.Ytlcglefbhlhcpaa.K
open Go.RowKit
set_option linter.unusedVariables false
set_option maxRecDepth 100000
set_option maxHeartbeats 400000

section
variable {w0 : World} {L A O : Option Addr} {c cL cO : Nat} {l own : List StaM} {G ev n : Nat} {gr ev0 at_ : Int} {ts : List Sta} {s t : Sta}

theorem of20_walk  : Calls Try.prog 111 [.agg #[.int .i64 s.kind, .int .i64 s.node, .int .i64 s.phase, .int .i64 s.pos, .int .i64 s.start, .int .i64 s.depth, .int .i64 s.org, .slice A s.caps.length c]].toArray w0 (fun r w' => r = .returned (.agg #[.int .i64 s.kind, .int .i64 s.node, .int .i64 s.phase, .int .i64 s.pos, .int .i64 s.start, .int .i64 s.depth, .int .i64 s.org, .slice A s.caps.length c]) ∧ Bel w0 w') := by
  have S := St.nil [] w0
  refine fn_start Try.func111 rfl 21 rfl rfl [(0, _)] ⟨rfl, trivial⟩ ?_; intro a E
  refine wp_seq ?_
  refine region_plain (n := 2) [(0, .e), (1, .e)] rfl rfl ?_
  refine Run.box (cs := [.int .i64 s.kind, .int .i64 s.node, .int .i64 s.phase, .int .i64 s.pos, .int .i64 s.start, .int .i64 s.depth, .int .i64 s.org, .slice A s.caps.length c]) rfl rfl E S rfl rfl rfl rfl ?_; clear E a S; intro b1 w a E S B_; clear B_
  refine Run.alloc rfl rfl E S rfl rfl z93 rfl ?_; clear E a S; intro b2 w a E S B_; clear B_
  refine Run.nil ?_
  refine then_n ?_
  refine wp_seq ?_
  refine region_plain (n := 19) [(0, .p), (1, .l), (2, .p), (3, .l), (4, .p), (5, .l), (6, .p), (7, .l), (8, .p), (9, .l), (10, .p), (11, .l), (12, .p), (13, .l), (14, .p), (15, .p), (16, .l), (17, .p), (18, .l)] rfl rfl ?_
  refine Run.fieldAddr rfl E rfl rfl rfl fo34_0 (rfl) ?_; clear E a; intro a E
  refine Run.load1 rfl rfl E S rfl rfl rfl one3 (fun _ s => s.objCell 1 0 rfl rfl) ?_; clear E a; intro a E
  refine Run.fieldAddr rfl E rfl rfl rfl fo34_1 (rfl) ?_; clear E a; intro a E
  refine Run.load1 rfl rfl E S rfl rfl rfl one3 (fun _ s => s.objCell 1 1 rfl rfl) ?_; clear E a; intro a E
  refine Run.fieldAddr rfl E rfl rfl rfl fo34_2 (rfl) ?_; clear E a; intro a E
  refine Run.load1 rfl rfl E S rfl rfl rfl one3 (fun _ s => s.objCell 1 2 rfl rfl) ?_; clear E a; intro a E
  refine Run.fieldAddr rfl E rfl rfl rfl fo34_3 (rfl) ?_; clear E a; intro a E
  refine Run.load1 rfl rfl E S rfl rfl rfl one3 (fun _ s => s.objCell 1 3 rfl rfl) ?_; clear E a; intro a E
  refine Run.fieldAddr rfl E rfl rfl rfl fo34_4 (rfl) ?_; clear E a; intro a E
  refine Run.load1 rfl rfl E S rfl rfl rfl one3 (fun _ s => s.objCell 1 4 rfl rfl) ?_; clear E a; intro a E
  refine Run.fieldAddr rfl E rfl rfl rfl fo34_5 (rfl) ?_; clear E a; intro a E
  refine Run.load1 rfl rfl E S rfl rfl rfl one3 (fun _ s => s.objCell 1 5 rfl rfl) ?_; clear E a; intro a E
  refine Run.fieldAddr rfl E rfl rfl rfl fo34_6 (rfl) ?_; clear E a; intro a E
  refine Run.load1 rfl rfl E S rfl rfl rfl one3 (fun _ s => s.objCell 1 6 rfl rfl) ?_; clear E a; intro a E
  refine Run.build (cs := #[.int .i64 s.kind, .int .i64 s.node, .int .i64 s.phase, .int .i64 s.pos, .int .i64 s.start, .int .i64 s.depth, .int .i64 s.org]) [(0, .int .i64 s.kind), (1, .int .i64 s.node), (2, .int .i64 s.phase), (3, .int .i64 s.pos), (4, .int .i64 s.start), (5, .int .i64 s.depth), (6, .int .i64 s.org)] rfl E rfl rfl rfl (by kernel_rfl) ?_; clear E a; intro a E
  refine Run.fieldAddr rfl E rfl rfl rfl fo34_7 (rfl) ?_; clear E a; intro a E
  refine Run.load1 rfl rfl E S rfl rfl rfl one32 (fun _ s => s.objCell 1 7 rfl rfl) ?_; clear E a; intro a E
  refine Run.build (cs := #[.int .i64 s.kind, .int .i64 s.node, .int .i64 s.phase, .int .i64 s.pos, .int .i64 s.start, .int .i64 s.depth, .int .i64 s.org, .slice A s.caps.length c]) [(0, .agg #[.int .i64 s.kind, .int .i64 s.node, .int .i64 s.phase, .int .i64 s.pos, .int .i64 s.start, .int .i64 s.depth, .int .i64 s.org]), (1, .slice A s.caps.length c)] rfl E rfl rfl rfl (by kernel_rfl) ?_; clear E a; intro a E
  refine Run.store (news := [.int .i64 s.kind, .int .i64 s.node, .int .i64 s.phase, .int .i64 s.pos, .int .i64 s.start, .int .i64 s.depth, .int .i64 s.org, .slice A s.caps.length c]) (cs' := [_, _, _, _, _, _, _, _]) (hp' := [_, _]) 0 rfl E S rfl rfl rfl rfl rfl sz93 rfl rfl rfl rfl ?_; clear S; intro w S
  refine Run.nil ?_
  refine then_n ?_
  refine wp_ret ?_
  exact retN E (vs := [.agg #[.int .i64 s.kind, .int .i64 s.node, .int .i64 s.phase, .int .i64 s.pos, .int .i64 s.start, .int .i64 s.depth, .int .i64 s.org, .slice A s.caps.length c]]) Try.results111 (.cell (E.slot _ _ rfl) (run_loadVarAgg ag93 rfl (objAll S 0 rfl)) .nil) rfl ⟨rfl, S.belT⟩

set_option maxHeartbeats 2000000 in
theorem packed_walk (hO : Rd w0 O own.length 8 (stams own)) (hO2 : ∀ y ∈ own, Rd w0 y.A y.s.caps.length 1 (ints y.s.caps)) (hown : own.map StaM.s = ts) (hok : TapeOK G ev ts) (hll : own.length ≤ 200) : Calls Try.prog 80 [.int .i64 (G : Int), .int .i64 (ev : Int), .slice O own.length cO].toArray w0 (fun r w' => ∃ X e, r = .returned (.slice X (packB G ev ts).length e) ∧ St [] w0 w' [.row (.slice X (packB G ev ts).length e) 5 1 (packB G ev ts).length (u8s (packB G ev ts))]) := by
  have S := St.nil [] w0
  have hG := hok.g
  have he1 := hok.e1
  have he0 := hok.e0
  have hol : own.length = ts.length := by rw [← hown, List.length_map]
  have hv1 := @vb_len10 G (by omega); have hv2 := @vb_len10 ev (by omega); have hv3 := @vb_len10 own.length (by omega)
  refine fn_start Try.func80 rfl 67 rfl rfl [(0, _), (1, _), (2, _)] ⟨rfl, rfl, rfl, trivial⟩ ?_; intro a E
  refine wp_seq ?_
  refine region_plain (n := 1) [(0, .p)] rfl rfl ?_
  refine Run.assign rfl E rfl rfl rfl ?_; clear E a; intro a E
  refine Run.nil ?_
  refine then_n ?_
  refine wp_seq ?_
  refine region_plain (n := 7) [(0, .e), (1, .l), (2, .p), (3, .p), (4, .e), (5, .l), (6, .p)] rfl rfl ?_
  refine Run.buildSlice (cs := [.int .u8 67, .int .u8 76, .int .u8 87, .int .u8 49]) [(0, .int .u8 67), (1, .int .u8 76), (2, .int .u8 87), (3, .int .u8 49)] rfl rfl E S rfl rfl rfl Try.underlying22 (by kernel_rfl) ?_; clear E a S; intro b1 w a E S B_; clear B_
  refine Run.convMark rfl E S rfl rfl rfl rfl Try.underlying22 Try.underlying5 ?_; clear E a S; intro w a E S Hm
  replace Hm : Rd _ _ _ 1 (u8s magicB) := Hm
  refine Run.move rfl E rfl rfl rfl ?_; clear E a; intro a E
  refine Run.conv rfl E rfl rfl rfl Try.underlying3 Try.underlying145 (u64_ok (by omega)) ?_; clear E a; intro a E
  refine Run.call (args := [.int .u64 (G : Int)]) rfl rfl E rfl rfl Try.func103 nm103 rfl rfl (rb_walk G (by omega)) ?_; rintro e_ w ⟨X2, e3, rfl, S_⟩; refine ⟨_, rfl, (fun _ => S_.belT), ?_⟩; clear E a; intro a E
  replace Hm := Hm.bel S_.belT
  replace S : St _ _ _ [_] := St.call (A := []) (R := []) S S_; clear S_
  refine Run.appendGrow (olds := u8s magicB) (news := u8s (vb G)) (nm := (magicB ++ vb G).length) rfl rfl E S rfl rfl rfl rfl Try.underlying22 I5 rfl (Hm) (S.rd 0 rfl) (by decide) (vb_pos G) (by simp [magicB]; try omega) (by simp only [List.length_append]; simp only [magicB, List.length_cons, List.length_nil]; omega) ?_; clear E a S; intro A4 c5 w a E S
  rw [u8s_append] at S
  replace S : St _ _ _ [_, _] := S
  refine Run.assign rfl E rfl rfl rfl ?_; clear E a; intro a E
  refine Run.nil ?_
  refine then_n ?_
  refine wp_seq ?_
  refine region_plain (n := 11) [(0, .p), (1, .p), (2, .p), (3, .e), (4, .l), (5, .p), (6, .p), (7, .p), (8, .e), (9, .l), (10, .p)] rfl rfl ?_
  refine Run.move rfl E rfl rfl rfl ?_; clear E a; intro a E
  refine Run.move rfl E rfl rfl rfl ?_; clear E a; intro a E
  refine Run.conv rfl E rfl rfl rfl Try.underlying3 Try.underlying145 (u64_ok (by omega)) ?_; clear E a; intro a E
  refine Run.call (args := [.int .u64 (ev : Int)]) rfl rfl E rfl rfl Try.func103 nm103 rfl rfl (rb_walk ev (by omega)) ?_; rintro e_ w ⟨X6, e7, rfl, S_⟩; refine ⟨_, rfl, (fun _ => S_.belT), ?_⟩; clear E a; intro a E
  replace S : St _ _ _ [_, _, _] := St.call (A := []) (R := [_, _]) S S_; clear S_
  have hn1 : (magicB ++ vb G).length = 4 + (vb G).length := by simp [magicB]; omega
  have hnl : (magicB ++ vb G ++ vb ev).length = (magicB ++ vb G).length + (vb ev).length := List.length_append
  refine Run.appendRd (news := u8s (vb ev)) (nm := (magicB ++ vb G ++ vb ev).length) 1 rfl E S rfl rfl rfl rfl rfl Try.underlying22 I5 rfl rfl (S.rd 0 rfl) (u8s_one _) (by simp only [List.length_append]) (by omega) (by omega) ?_; clear E a S; intro A8 c9 w a E S
  rw [u8s_append] at S
  replace S : St _ _ _ [_, _, _] := S
  refine Run.move rfl E rfl rfl rfl ?_; clear E a; intro a E
  refine Run.len rfl E rfl rfl rfl Try.underlying50 ?_; clear E a; intro a E
  refine Run.conv rfl E rfl rfl rfl Try.underlying3 Try.underlying145 (u64_ok (by omega)) ?_; clear E a; intro a E
  refine Run.call (args := [.int .u64 (own.length : Int)]) rfl rfl E rfl rfl Try.func103 nm103 rfl rfl (rb_walk own.length (by omega)) ?_; rintro e_ w ⟨X10, e11, rfl, S_⟩; refine ⟨_, rfl, (fun _ => S_.belT), ?_⟩; clear E a; intro a E
  replace S : St _ _ _ [_, _, _, _] := St.call (A := []) (R := [_, _, _]) S S_; clear S_
  have hn2 : (magicB ++ vb G ++ vb ev ++ vb own.length).length = (magicB ++ vb G ++ vb ev).length + (vb own.length).length := List.length_append
  refine Run.appendRd (news := u8s (vb own.length)) (nm := (magicB ++ vb G ++ vb ev ++ vb own.length).length) 2 rfl E S rfl rfl rfl rfl rfl Try.underlying22 I5 rfl rfl (S.rd 0 rfl) (u8s_one _) (by simp only [List.length_append]) (by omega) (by omega) ?_; clear E a S; intro A12 c13 w a E S
  rw [u8s_append] at S
  replace S : St _ _ _ [_, _, _, _] := S
  refine Run.assign rfl E rfl rfl rfl ?_; clear E a; intro a E
  refine Run.nil ?_
  refine then_n ?_
  refine wp_seq ?_
  refine region_plain (n := 4) [(0, .p), (1, .p), (2, .e), (3, .l)] rfl rfl ?_
  refine Run.build (cs := #[.int .i64 0, .int .i64 0, .int .i64 0, .int .i64 0, .int .i64 0, .int .i64 0, .int .i64 (-1)]) [(0, .int .i64 0), (1, .int .i64 0), (2, .int .i64 0), (3, .int .i64 0), (4, .int .i64 0), (5, .int .i64 0), (6, .int .i64 (-1))] rfl E rfl rfl rfl (by kernel_rfl) ?_; clear E a; intro a E
  refine Run.build (cs := #[.int .i64 0, .int .i64 0, .int .i64 0, .int .i64 0, .int .i64 0, .int .i64 0, .int .i64 (-1), .slice none 0 0]) [(0, .agg #[.int .i64 0, .int .i64 0, .int .i64 0, .int .i64 0, .int .i64 0, .int .i64 0, .int .i64 (-1)])] rfl E rfl rfl rfl (by kernel_rfl) ?_; clear E a; intro a E
  refine Run.alloc rfl rfl E S rfl rfl z93 rfl ?_; clear E a S; intro b14 w a E S B_; clear B_
  refine Run.store (news := [.int .i64 0, .int .i64 0, .int .i64 0, .int .i64 0, .int .i64 0, .int .i64 0, .int .i64 (-1), .slice none 0 0]) (cs' := [_, _, _, _, _, _, _, _]) (hp' := [_, _, _, _, _]) 0 rfl E S rfl rfl rfl rfl rfl sz93 rfl rfl rfl rfl ?_; clear S; intro w S
  refine Run.nil ?_
  refine then_n ?_
  refine wp_seq ?_
  refine wp_seq ?_
  refine region_plain (n := 4) [(0, .p), (1, .p), (2, .p), (3, .p)] rfl rfl ?_
  refine Run.move rfl E rfl rfl rfl ?_; clear E a; intro a E
  refine Run.mul rfl E rfl rfl rfl rfl (i64_ok (by omega)) ?_; clear E a; intro a E
  refine Run.add rfl E rfl rfl rfl rfl (i64_ok (by omega)) ?_; clear E a; intro a E
  refine Run.move rfl E rfl rfl rfl ?_; clear E a; intro a E
  refine Run.nil ?_
  refine then_n ?_
  refine wp_block ?_
  replace S := S.addNil 3 1
  have S : St _ _ _ [_, _, _, _, _, _] := S.sel [2, 3, 5, 0, 1, 4] _ rfl rfl
  have S := S.drop1.drop1.drop1
  refine wp_loop_ghost (fun n_ a w => ∃ i : Nat, ∃ B : Option Addr, ∃ e : Nat, 2 * (G + 1) - i = n_ ∧ Env 67 [(1, .int .i64 (ev : Int)), (2, .slice O own.length cO), (6, .slice none 0 0), (7, .slice A12 ((magicB ++ vb G ++ vb ev ++ vb own.length).length) c13), (8, .pointer (some ⟨b14, 0, none⟩)), (32, .int .i64 ((2 * (G : Int)) + 2)), (33, .int .i64 (i : Int))] a ∧ St _ _ w [.row (.slice B i e) 3 1 i (ints (List.replicate i (-1))), .obj b14 93 [.int .i64 0, .int .i64 0, .int .i64 0, .int .i64 0, .int .i64 0, .int .i64 0, .int .i64 (-1), .slice B i e], .row (.slice A12 ((magicB ++ vb G ++ vb ev ++ vb own.length).length) c13) 5 1 ((magicB ++ vb G ++ vb ev ++ vb own.length).length) (u8s (magicB ++ vb G ++ vb ev ++ vb own.length))] ∧ (i ≤ 2 * (G + 1))) _ ⟨0, none, 0, rfl, E.keeps [(1, _), (2, _), (6, _), (7, _), (8, _), (32, _), (33, _)] ⟨rfl, rfl, rfl, rfl, rfl, rfl, rfl, trivial⟩, S, Nat.zero_le _⟩ ?_
  clear E a S
  rintro n_ a w ⟨i, B, e, rfl, E, S, hi⟩
  refine wp_seq ?_
  refine region_plain (n := 1) [(0, .p)] rfl rfl ?_
  by_cases hlt : (i : Int) < 2 * (G : Int) + 2
  · skip
    refine Run.lss rfl E rfl rfl rfl rfl (decide_eq_true (by omega)) ?_; clear E a; intro a E
    refine Run.nil ?_
    refine then_n ?_
    refine wp_seq ?_
    refine cond_T E rfl ?_
    refine wp_skip ?_
    refine then_n ?_
    refine wp_seq ?_
    refine wp_block ?_
    refine region_plain (n := 6) [(0, .p), (1, .l), (2, .e), (3, .l), (4, .p), (5, .l)] rfl rfl ?_
    refine Run.fieldAddr rfl E rfl rfl rfl fo93_1 (rfl) ?_; clear E a; intro a E
    refine Run.load1 rfl rfl E S rfl rfl rfl one32 (fun _ s => s.objCell 1 7 rfl rfl) ?_; clear E a; intro a E
    refine Run.buildSlice (cs := [.int .i64 (-1)]) [(0, .int .i64 (-1))] rfl rfl E S rfl rfl rfl Try.underlying32 (by kernel_rfl) ?_; clear E a S; intro b15 w a E S B_; clear B_
    refine Run.append (news := [.int .i64 (-1)]) (nm := i + 1) 1 rfl E S rfl rfl rfl rfl rfl Try.underlying32 I3 rfl rfl rfl (objNews S 0 rfl) (by simp [Value.oneCell']) (by omega) (by omega) (by omega) ?_; clear E a S; intro A16 c17 w a E S
    replace S : St _ _ _ [.obj _ _ [_], _, .obj _ _ [_, _, _, _, _, _, _, _], _] := S
    refine Run.fieldAddr rfl E rfl rfl rfl fo93_1 (rfl) ?_; clear E a; intro a E
    refine Run.store (news := [.slice A16 (i + 1) c17]) (cs' := [_, _, _, _, _, _, _, _]) (hp' := [_, _, _, _]) 2 rfl E S rfl rfl rfl rfl rfl sz32 rfl rfl rfl rfl ?_; clear S; intro w S
    refine Run.nil ?_
    refine blk_n ?_
    refine then_n ?_
    refine region_plain (n := 2) [(0, .p), (1, .p)] rfl rfl ?_
    refine Run.add rfl E rfl rfl rfl rfl (i64_ok (by omega)) ?_; clear E a; intro a E
    refine Run.move rfl E rfl rfl rfl ?_; clear E a; intro a E
    refine Run.nil ?_
    refine then_n ?_
    replace E := E.setv 33 rfl (show Value.int .i64 ((i : Int) + 1) = .int .i64 ((i + 1 : Nat) : Int) from rfl)
    rw [ints_rep] at S
    have S : St _ _ _ [_, _, _, _] := S.sel [0, 1, 2, 3] _ rfl rfl
    have S := S.drop1
    exact ⟨_, (by omega), (i + 1), A16, c17, rfl, E.keeps [(1, _), (2, _), (6, _), (7, _), (8, _), (32, _), (33, _)] ⟨rfl, rfl, rfl, rfl, rfl, rfl, rfl, trivial⟩, S, (by omega)⟩
  · skip
    obtain rfl : i = 2 * (G + 1) := by omega
    have e1 : (Sta.blank (2 * (G + 1))).caps.length = 2 * (G + 1) := by simp [Sta.blank]
    replace S : St [] w0 w [.row (.slice B ((Sta.blank (2 * (G + 1))).caps.length) e) 3 1 ((Sta.blank (2 * (G + 1))).caps.length) (ints (Sta.blank (2 * (G + 1))).caps), .obj b14 93 [.int .i64 ((Sta.blank (2 * (G + 1))).kind), .int .i64 ((Sta.blank (2 * (G + 1))).node), .int .i64 ((Sta.blank (2 * (G + 1))).phase), .int .i64 ((Sta.blank (2 * (G + 1))).pos), .int .i64 ((Sta.blank (2 * (G + 1))).start), .int .i64 ((Sta.blank (2 * (G + 1))).depth), .int .i64 ((Sta.blank (2 * (G + 1))).org), .slice B ((Sta.blank (2 * (G + 1))).caps.length) e], .row (.slice A12 ((magicB ++ vb G ++ vb ev ++ vb own.length).length) c13) 5 1 ((magicB ++ vb G ++ vb ev ++ vb own.length).length) (u8s (magicB ++ vb G ++ vb ev ++ vb own.length))] := by rw [e1]; exact S
    refine Run.lss rfl E rfl rfl rfl rfl (decide_eq_false (by omega)) ?_; clear E a; intro a E
    refine Run.nil ?_
    refine then_n ?_
    refine wp_seq ?_
    refine cond_F E rfl ?_
    refine wp_exit ?_
    refine then_x ?_
    refine then_x ?_
    refine blk_x ?_
    refine then_n ?_
    refine wp_seq ?_
    refine wp_seq ?_
    refine region_plain (n := 3) [(0, .p), (1, .p), (2, .p)] rfl rfl ?_
    refine Run.move rfl E rfl rfl rfl ?_; clear E a; intro a E
    refine Run.len rfl E rfl rfl rfl Try.underlying50 ?_; clear E a; intro a E
    refine Run.move rfl E rfl rfl rfl ?_; clear E a; intro a E
    refine Run.nil ?_
    refine then_n ?_
    refine wp_block ?_
    replace S : St _ _ _ [_, _, _] := S.sel [2, 0, 1] _ rfl rfl
    have hh4 : (magicB ++ vb G ++ vb ev ++ vb own.length).length ≤ 34 := headB_len (G := G) (ev := ev) (n := own.length) (by omega) (by omega) (by omega)
    refine wp_loop_ghost (fun n_ a w => ∃ i : Nat, ∃ bs : List Nat, ∃ X : Option Addr, ∃ eX : Nat, own.length - i = n_ ∧ Env 67 [(1, .int .i64 (ev : Int)), (2, .slice O own.length cO), (6, .slice none 0 0), (7, .slice X bs.length eX), (8, .pointer (some ⟨b14, 0, none⟩)), (41, .slice O own.length cO), (42, .int .i64 (own.length : Int)), (43, .int .i64 (i : Int))] a ∧ St _ _ w [.row (.slice X bs.length eX) 5 1 bs.length (u8s bs), .row (.slice B ((Sta.blank (2 * (G + 1))).caps.length) e) 3 1 ((Sta.blank (2 * (G + 1))).caps.length) (ints (Sta.blank (2 * (G + 1))).caps), .obj b14 93 [.int .i64 ((Sta.blank (2 * (G + 1))).kind), .int .i64 ((Sta.blank (2 * (G + 1))).node), .int .i64 ((Sta.blank (2 * (G + 1))).phase), .int .i64 ((Sta.blank (2 * (G + 1))).pos), .int .i64 ((Sta.blank (2 * (G + 1))).start), .int .i64 ((Sta.blank (2 * (G + 1))).depth), .int .i64 ((Sta.blank (2 * (G + 1))).org), .slice B ((Sta.blank (2 * (G + 1))).caps.length) e]] ∧ (i ≤ own.length) ∧ (bs = headB G ev own.length ++ recs G ev ts i) ∧ (bs.length ≤ 34 + 5000 * i)) _ ⟨0, (magicB ++ vb G ++ vb ev ++ vb own.length), A12, c13, rfl, E.keeps [(1, _), (2, _), (6, _), (7, _), (8, _), (41, _), (42, _), (43, _)] ⟨rfl, rfl, rfl, rfl, rfl, rfl, rfl, rfl, trivial⟩, S, Nat.zero_le _, (by simp [headB, recs]), hh4⟩ ?_
    clear E a S
    rintro n_ a w ⟨i, bs, X, eX, rfl, E, S, hi2, hbs, hbl⟩
    refine wp_seq ?_
    refine region_plain (n := 1) [(0, .p)] rfl rfl ?_
    by_cases hlt : i < own.length
    · skip
      obtain ⟨y, hy⟩ : ∃ y, own[i]? = some y := ⟨_, List.getElem?_eq_getElem hlt⟩
      have hti : ts[i]? = some y.s := by rw [← hown, List.getElem?_map, hy]; rfl
      obtain ⟨p1, p2, p3⟩ := hok.prev (k := i) (by rw [← hol]; omega)
      have hRy := hok.right _ (List.mem_of_getElem? hti)
      obtain ⟨bL, oL, rfl, hLc⟩ := hO.place (by omega)
      refine Run.lss rfl E rfl rfl rfl rfl (decide_eq_true (by omega)) ?_; clear E a; intro a E
      refine Run.nil ?_
      refine then_n ?_
      refine wp_seq ?_
      refine cond_T E rfl ?_
      refine wp_skip ?_
      refine then_n ?_
      refine wp_seq ?_
      refine wp_block ?_
      refine wp_seq ?_
      refine region_plain (n := 6) [(0, .p), (1, .p), (2, .l), (3, .e), (4, .p), (5, .l)] rfl rfl ?_
      refine Run.move rfl E rfl rfl rfl ?_; clear E a; intro a E
      refine Run.indexAddr rfl E rfl rfl rfl rfl Try.underlying50 sz34 (by omega) (ix_at' (m' := i) (by omega)) ?_; clear E a; intro a E
      refine Run.loadN (cs := [.int .i64 y.s.kind, .int .i64 y.s.node, .int .i64 y.s.phase, .int .i64 y.s.pos, .int .i64 y.s.start, .int .i64 y.s.depth, .int .i64 y.s.org, .slice y.A y.s.caps.length y.c]) rfl rfl E S rfl rfl rfl ag34 rfl (fun _ s_ => rdAtL hLc s_ _ _ (stams_get hy)) ?_; clear E a; intro a E
      refine Run.alloc rfl rfl E S rfl rfl z34 rfl ?_; clear E a S; intro b18 w a E S B_; clear B_
      refine Run.assign rfl E rfl rfl rfl ?_; clear E a; intro a E
      refine Run.store (news := [.int .i64 y.s.kind, .int .i64 y.s.node, .int .i64 y.s.phase, .int .i64 y.s.pos, .int .i64 y.s.start, .int .i64 y.s.depth, .int .i64 y.s.org, .slice y.A y.s.caps.length y.c]) (cs' := [_, _, _, _, _, _, _, _]) (hp' := [_, _, _, _]) 0 rfl E S rfl rfl rfl rfl rfl sz34 rfl rfl rfl rfl ?_; clear S; intro w S
      refine Run.nil ?_
      refine then_n ?_
      refine wp_seq ?_
      refine region_plain (n := 3) [(0, .l), (1, .e), (2, .l)] rfl rfl ?_
      refine Run.loadN (cs := [.int .i64 ((Sta.blank (2 * (G + 1))).kind), .int .i64 ((Sta.blank (2 * (G + 1))).node), .int .i64 ((Sta.blank (2 * (G + 1))).phase), .int .i64 ((Sta.blank (2 * (G + 1))).pos), .int .i64 ((Sta.blank (2 * (G + 1))).start), .int .i64 ((Sta.blank (2 * (G + 1))).depth), .int .i64 ((Sta.blank (2 * (G + 1))).org), .slice B ((Sta.blank (2 * (G + 1))).caps.length) e]) rfl rfl E S rfl rfl rfl ag93 rfl (fun _ s => objAll s 3 rfl) ?_; clear E a; intro a E
      refine Run.alloc rfl rfl E S rfl rfl z93 rfl ?_; clear E a S; intro b19 w a E S B_; clear B_
      refine Run.store (news := [.int .i64 ((Sta.blank (2 * (G + 1))).kind), .int .i64 ((Sta.blank (2 * (G + 1))).node), .int .i64 ((Sta.blank (2 * (G + 1))).phase), .int .i64 ((Sta.blank (2 * (G + 1))).pos), .int .i64 ((Sta.blank (2 * (G + 1))).start), .int .i64 ((Sta.blank (2 * (G + 1))).depth), .int .i64 ((Sta.blank (2 * (G + 1))).org), .slice B ((Sta.blank (2 * (G + 1))).caps.length) e]) (cs' := [_, _, _, _, _, _, _, _]) (hp' := [_, _, _, _, _]) 0 rfl E S rfl rfl rfl rfl rfl sz93 rfl rfl rfl rfl ?_; clear S; intro w S
      refine Run.nil ?_
      refine then_n ?_
      refine wp_seq ?_
      refine wp_seq ?_
      refine region_plain (n := 4) [(0, .p), (1, .p), (2, .p), (3, .p)] rfl rfl ?_
      refine Run.move rfl E rfl rfl rfl ?_; clear E a; intro a E
      refine Run.move rfl E rfl rfl rfl ?_; clear E a; intro a E
      refine Run.rem rfl E rfl rfl rfl rfl (by omega) (q := ((i % ev : Nat) : Int)) (rem_nn _ _) ?_; clear E a; intro a E
      by_cases hm : i % ev = 0
      · skip
        have hpq : (Sta.blank (2 * (G + 1))) = prevS G ev ts i := (prev_blank hm).symm
        rw [← hpq] at p1 p2 p3
        obtain ⟨hss, hsc⟩ := base_small p1
        obtain ⟨hst, htc⟩ := right_small hRy
        obtain ⟨hle, ht200, hk1, hk2⟩ := right_len p1 (by rw [p2]; exact hRy)
        have hrl := rec18_len _ y.s p1 (by rw [p2]; exact hRy)
        refine Run.gtr rfl E rfl rfl rfl rfl (decide_eq_false (by rw [hm]; decide)) ?_; clear E a; intro a E
        refine Run.nil ?_
        refine then_n ?_
        refine cond_F E rfl ?_
        refine wp_skip ?_
        refine then_n ?_
        refine region_drawS (n := 7) [(0, .p), (1, .t), (2, .t), (3, .e), (4, .e), (5, .l), (6, .p)] [0, 0, 0, 4, 14, 31, 63] S mixed rfl rfl (by kernel_rfl) (fun _ _ _ _ _ h => h) ?_; clear S; intro w S B_; clear B_
        refine Run.move rfl E rfl rfl rfl ?_; clear E a; intro a E
        refine Run.loadN (cs := [.int .i64 ((Sta.blank (2 * (G + 1))).kind), .int .i64 ((Sta.blank (2 * (G + 1))).node), .int .i64 ((Sta.blank (2 * (G + 1))).phase), .int .i64 ((Sta.blank (2 * (G + 1))).pos), .int .i64 ((Sta.blank (2 * (G + 1))).start), .int .i64 ((Sta.blank (2 * (G + 1))).depth), .int .i64 ((Sta.blank (2 * (G + 1))).org), .slice B ((Sta.blank (2 * (G + 1))).caps.length) e]) rfl rfl E S rfl rfl rfl ag93 rfl (fun _ s => objAll s 0 rfl) ?_; clear E a; intro a E
        refine Run.loadN (cs := [.int .i64 y.s.kind, .int .i64 y.s.node, .int .i64 y.s.phase, .int .i64 y.s.pos, .int .i64 y.s.start, .int .i64 y.s.depth, .int .i64 y.s.org, .slice y.A y.s.caps.length y.c]) rfl rfl E S rfl rfl rfl ag34 rfl (fun _ s => objAll s 1 rfl) ?_; clear E a; intro a E
        refine Run.call (args := [.agg #[.int .i64 y.s.kind, .int .i64 y.s.node, .int .i64 y.s.phase, .int .i64 y.s.pos, .int .i64 y.s.start, .int .i64 y.s.depth, .int .i64 y.s.org, .slice y.A y.s.caps.length y.c]]) rfl rfl E rfl rfl Try.func111 nm111 rfl rfl (of20_walk (s := y.s) (A := y.A) (c := y.c)) ?_; rintro e_ w ⟨rfl, B_⟩; refine ⟨_, rfl, fun _ => B_, ?_⟩; clear E a; replace S := S.bel B_; intro a E
        clear B_
        refine Run.call (args := [.agg #[.int .i64 ((Sta.blank (2 * (G + 1))).kind), .int .i64 ((Sta.blank (2 * (G + 1))).node), .int .i64 ((Sta.blank (2 * (G + 1))).phase), .int .i64 ((Sta.blank (2 * (G + 1))).pos), .int .i64 ((Sta.blank (2 * (G + 1))).start), .int .i64 ((Sta.blank (2 * (G + 1))).depth), .int .i64 ((Sta.blank (2 * (G + 1))).org), .slice B ((Sta.blank (2 * (G + 1))).caps.length) e], .agg #[.int .i64 y.s.kind, .int .i64 y.s.node, .int .i64 y.s.phase, .int .i64 y.s.pos, .int .i64 y.s.start, .int .i64 y.s.depth, .int .i64 y.s.org, .slice y.A y.s.caps.length y.c]]) rfl rfl E rfl rfl Try.func64 nm64 rfl rfl (rec18_walk (s := (Sta.blank (2 * (G + 1)))) (t := y.s) (S.rd 3 rfl) ((hO2 y (List.mem_of_getElem? hy)).bel S.belT) hss hsc hst htc hle ht200 hk1 hk2) ?_; rintro e_ w ⟨X20, e21, rfl, S_⟩; refine ⟨_, rfl, (fun _ => S_.belT), ?_⟩; clear E a; intro a E
        replace S : St _ _ _ [_, .obj _ _ [_, _, _, _, _, _, _, _], .obj _ _ [_, _, _, _, _, _, _, _], _, _, .obj _ _ [_, _, _, _, _, _, _, _]] := St.call (A := []) (R := [_, _, _, _, _]) S S_; clear S_
        have hn4 : (bs ++ rec18 (Sta.blank (2 * (G + 1))) y.s).length = bs.length + (rec18 (Sta.blank (2 * (G + 1))) y.s).length := List.length_append
        refine Run.appendRd (news := u8s (rec18 (Sta.blank (2 * (G + 1))) y.s)) (nm := (bs ++ rec18 (Sta.blank (2 * (G + 1))) y.s).length) 3 rfl E S rfl rfl rfl rfl rfl Try.underlying22 I5 rfl rfl (S.rd 0 rfl) (u8s_one _) (by simp only [List.length_append]) (by omega) (by omega) ?_; clear E a S; intro A22 c23 w a E S
        rw [u8s_append] at S
        replace S : St _ _ _ [_, .obj _ _ [_, _, _, _, _, _, _, _], .obj _ _ [_, _, _, _, _, _, _, _], _, _, .obj _ _ [_, _, _, _, _, _, _, _]] := S
        refine Run.assign rfl E rfl rfl rfl ?_; clear E a; intro a E
        refine Run.nil ?_
        refine blk_n ?_
        refine then_n ?_
        refine region_plain (n := 2) [(0, .p), (1, .p)] rfl rfl ?_
        refine Run.add rfl E rfl rfl rfl rfl (i64_ok (by omega)) ?_; clear E a; intro a E
        refine Run.move rfl E rfl rfl rfl ?_; clear E a; intro a E
        refine Run.nil ?_
        refine then_n ?_
        replace E := E.setv 43 rfl (show Value.int .i64 ((i : Int) + 1) = .int .i64 ((i + 1 : Nat) : Int) from rfl)
        have S : St _ _ _ [_, _, _, _, _, _] := S.sel [0, 1, 2, 3, 4, 5] _ rfl rfl
        have S := S.drop1.drop1.drop1
        exact ⟨_, (by omega), (i + 1), (bs ++ rec18 (Sta.blank (2 * (G + 1))) y.s), A22, c23, rfl, E.keeps [(1, _), (2, _), (6, _), (7, _), (8, _), (41, _), (42, _), (43, _)] ⟨rfl, rfl, rfl, rfl, rfl, rfl, rfl, rfl, trivial⟩, S, (by omega), (by rw [hbs, recs, hti, hpq]; simp), (by rw [List.length_append]; omega)⟩
      · skip
        have hi0 : i ≠ 0 := fun h => hm (by rw [h]; exact Nat.zero_mod _)
        obtain ⟨y2, hy2⟩ : ∃ y, own[i - 1]? = some y := ⟨_, List.getElem?_eq_getElem (by omega)⟩
        have hpq : y2.s = prevS G ev ts i := by
          have h1 : ts[i - 1]? = some y2.s := by rw [← hown, List.getElem?_map, hy2]; rfl
          have h2 := prev_get (G := G) (ev := ev) (k := i - 1) (by rw [show i - 1 + 1 = i by omega]; exact hm) h1
          rw [show i - 1 + 1 = i by omega] at h2; exact h2.symm
        rw [← hpq] at p1 p2 p3
        obtain ⟨hss, hsc⟩ := base_small p1
        obtain ⟨hst, htc⟩ := right_small hRy
        obtain ⟨hle, ht200, hk1, hk2⟩ := right_len p1 (by rw [p2]; exact hRy)
        have hrl := rec18_len _ y.s p1 (by rw [p2]; exact hRy)
        refine Run.gtr rfl E rfl rfl rfl rfl (decide_eq_true (by have := Nat.pos_of_ne_zero hm; omega)) ?_; clear E a; intro a E
        refine Run.nil ?_
        refine then_n ?_
        refine cond_T E rfl ?_
        refine region_plain (n := 7) [(0, .p), (1, .p), (2, .p), (3, .p), (4, .l), (5, .e), (6, .l)] rfl rfl ?_
        refine Run.move rfl E rfl rfl rfl ?_; clear E a; intro a E
        refine Run.move rfl E rfl rfl rfl ?_; clear E a; intro a E
        refine Run.sub rfl E rfl rfl rfl rfl (i64_ok (by omega)) ?_; clear E a; intro a E
        refine Run.indexAddr rfl E rfl rfl rfl rfl Try.underlying50 sz34 (by omega) (ix_at' (m' := (i - 1)) (by omega)) ?_; clear E a; intro a E
        refine Run.loadN (cs := [.int .i64 y2.s.kind, .int .i64 y2.s.node, .int .i64 y2.s.phase, .int .i64 y2.s.pos, .int .i64 y2.s.start, .int .i64 y2.s.depth, .int .i64 y2.s.org, .slice y2.A y2.s.caps.length y2.c]) rfl rfl E S rfl rfl rfl ag34 rfl (fun _ s_ => rdAtL hLc s_ _ _ (stams_get hy2)) ?_; clear E a; intro a E
        refine Run.call (args := [.agg #[.int .i64 y2.s.kind, .int .i64 y2.s.node, .int .i64 y2.s.phase, .int .i64 y2.s.pos, .int .i64 y2.s.start, .int .i64 y2.s.depth, .int .i64 y2.s.org, .slice y2.A y2.s.caps.length y2.c]]) rfl rfl E rfl rfl Try.func111 nm111 rfl rfl (of20_walk (s := y2.s) (A := y2.A) (c := y2.c)) ?_; rintro e_ w ⟨rfl, B_⟩; refine ⟨_, rfl, fun _ => B_, ?_⟩; clear E a; replace S := S.bel B_; intro a E
        clear B_
        refine Run.store (news := [.int .i64 y2.s.kind, .int .i64 y2.s.node, .int .i64 y2.s.phase, .int .i64 y2.s.pos, .int .i64 y2.s.start, .int .i64 y2.s.depth, .int .i64 y2.s.org, .slice y2.A y2.s.caps.length y2.c]) (cs' := [_, _, _, _, _, _, _, _]) (hp' := [_, _, _, _, _]) 0 rfl E S rfl rfl rfl rfl rfl sz93 rfl rfl rfl rfl ?_; clear S; intro w S
        refine Run.nil ?_
        refine then_n ?_
        refine region_drawS (n := 7) [(0, .p), (1, .t), (2, .t), (3, .e), (4, .e), (5, .l), (6, .p)] [0, 0, 0, 4, 14, 31, 63] S mixed rfl rfl (by kernel_rfl) (fun _ _ _ _ _ h => h) ?_; clear S; intro w S B_; clear B_
        refine Run.move rfl E rfl rfl rfl ?_; clear E a; intro a E
        refine Run.loadN (cs := [.int .i64 y2.s.kind, .int .i64 y2.s.node, .int .i64 y2.s.phase, .int .i64 y2.s.pos, .int .i64 y2.s.start, .int .i64 y2.s.depth, .int .i64 y2.s.org, .slice y2.A y2.s.caps.length y2.c]) rfl rfl E S rfl rfl rfl ag93 rfl (fun _ s => objAll s 0 rfl) ?_; clear E a; intro a E
        refine Run.loadN (cs := [.int .i64 y.s.kind, .int .i64 y.s.node, .int .i64 y.s.phase, .int .i64 y.s.pos, .int .i64 y.s.start, .int .i64 y.s.depth, .int .i64 y.s.org, .slice y.A y.s.caps.length y.c]) rfl rfl E S rfl rfl rfl ag34 rfl (fun _ s => objAll s 1 rfl) ?_; clear E a; intro a E
        refine Run.call (args := [.agg #[.int .i64 y.s.kind, .int .i64 y.s.node, .int .i64 y.s.phase, .int .i64 y.s.pos, .int .i64 y.s.start, .int .i64 y.s.depth, .int .i64 y.s.org, .slice y.A y.s.caps.length y.c]]) rfl rfl E rfl rfl Try.func111 nm111 rfl rfl (of20_walk (s := y.s) (A := y.A) (c := y.c)) ?_; rintro e_ w ⟨rfl, B_⟩; refine ⟨_, rfl, fun _ => B_, ?_⟩; clear E a; replace S := S.bel B_; intro a E
        clear B_
        refine Run.call (args := [.agg #[.int .i64 y2.s.kind, .int .i64 y2.s.node, .int .i64 y2.s.phase, .int .i64 y2.s.pos, .int .i64 y2.s.start, .int .i64 y2.s.depth, .int .i64 y2.s.org, .slice y2.A y2.s.caps.length y2.c], .agg #[.int .i64 y.s.kind, .int .i64 y.s.node, .int .i64 y.s.phase, .int .i64 y.s.pos, .int .i64 y.s.start, .int .i64 y.s.depth, .int .i64 y.s.org, .slice y.A y.s.caps.length y.c]]) rfl rfl E rfl rfl Try.func64 nm64 rfl rfl (rec18_walk (s := y2.s) (t := y.s) ((hO2 y2 (List.mem_of_getElem? hy2)).bel S.belT) ((hO2 y (List.mem_of_getElem? hy)).bel S.belT) hss hsc hst htc hle ht200 hk1 hk2) ?_; rintro e_ w ⟨X24, e25, rfl, S_⟩; refine ⟨_, rfl, (fun _ => S_.belT), ?_⟩; clear E a; intro a E
        replace S : St _ _ _ [_, .obj _ _ [_, _, _, _, _, _, _, _], .obj _ _ [_, _, _, _, _, _, _, _], _, _, .obj _ _ [_, _, _, _, _, _, _, _]] := St.call (A := []) (R := [_, _, _, _, _]) S S_; clear S_
        have hn4 : (bs ++ rec18 y2.s y.s).length = bs.length + (rec18 y2.s y.s).length := List.length_append
        refine Run.appendRd (news := u8s (rec18 y2.s y.s)) (nm := (bs ++ rec18 y2.s y.s).length) 3 rfl E S rfl rfl rfl rfl rfl Try.underlying22 I5 rfl rfl (S.rd 0 rfl) (u8s_one _) (by simp only [List.length_append]) (by omega) (by omega) ?_; clear E a S; intro A26 c27 w a E S
        rw [u8s_append] at S
        replace S : St _ _ _ [_, .obj _ _ [_, _, _, _, _, _, _, _], .obj _ _ [_, _, _, _, _, _, _, _], _, _, .obj _ _ [_, _, _, _, _, _, _, _]] := S
        refine Run.assign rfl E rfl rfl rfl ?_; clear E a; intro a E
        refine Run.nil ?_
        refine blk_n ?_
        refine then_n ?_
        refine region_plain (n := 2) [(0, .p), (1, .p)] rfl rfl ?_
        refine Run.add rfl E rfl rfl rfl rfl (i64_ok (by omega)) ?_; clear E a; intro a E
        refine Run.move rfl E rfl rfl rfl ?_; clear E a; intro a E
        refine Run.nil ?_
        refine then_n ?_
        replace E := E.setv 43 rfl (show Value.int .i64 ((i : Int) + 1) = .int .i64 ((i + 1 : Nat) : Int) from rfl)
        have S : St _ _ _ [_, _, _, _, _, _] := S.sel [0, 1, 2, 3, 4, 5] _ rfl rfl
        have S := S.drop1.drop1.drop1
        exact ⟨_, (by omega), (i + 1), (bs ++ rec18 y2.s y.s), A26, c27, rfl, E.keeps [(1, _), (2, _), (6, _), (7, _), (8, _), (41, _), (42, _), (43, _)] ⟨rfl, rfl, rfl, rfl, rfl, rfl, rfl, rfl, trivial⟩, S, (by omega), (by rw [hbs, recs, hti, hpq]; simp), (by rw [List.length_append]; omega)⟩
    · skip
      refine Run.lss rfl E rfl rfl rfl rfl (decide_eq_false (by omega)) ?_; clear E a; intro a E
      refine Run.nil ?_
      refine then_n ?_
      refine wp_seq ?_
      refine cond_F E rfl ?_
      refine wp_exit ?_
      refine then_x ?_
      refine then_x ?_
      refine blk_x ?_
      refine then_n ?_
      refine wp_seq ?_
      refine region_plain (n := 2) [(0, .p), (1, .p)] rfl rfl ?_
      refine Run.move rfl E rfl rfl rfl ?_; clear E a; intro a E
      refine Run.assign rfl E rfl rfl rfl ?_; clear E a; intro a E
      refine Run.nil ?_
      refine then_n ?_
      refine wp_ret ?_
      have hfin : bs = packB G ev ts := by rw [hbs, show i = ts.length by omega, hol]; rfl
      rw [hfin] at S E
      have S : St _ _ _ [_, _, _] := S.sel [1, 2, 0] _ rfl rfl
      have S := S.drop1.drop1
      exact ret1 E Try.results80 rfl ⟨X, eX, rfl, S⟩

theorem fpacks_out (hn : ¬ ((0 ≤ gr ∧ gr ≤ 99) ∧ (1 ≤ ev0 ∧ ev0 ≤ 1024) ∧ l.length ≤ 100)) : Calls Try.prog 20 [.int .i64 gr, .int .i64 ev0, .slice L l.length cL].toArray w0 (fun r w' => r = .returned (.bool true) ∧ Bel w0 w') := by
  have S := St.nil [] w0
  refine fn_start Try.func20 rfl 50 rfl rfl [(0, _), (1, _), (2, _)] ⟨rfl, rfl, rfl, trivial⟩ ?_; intro a E
  refine wp_seq ?_
  refine region_plain (n := 1) [(0, .p)] rfl rfl ?_
  refine Run.assign rfl E rfl rfl rfl ?_; clear E a; intro a E
  refine Run.nil ?_
  refine then_n ?_
  refine wp_seq ?_
  refine wp_seq ?_
  refine region_plain (n := 2) [(0, .e), (1, .p)] rfl rfl ?_
  refine Run.call (args := []) rfl rfl E rfl rfl Try.func22 nm22 rfl rfl (anchor20) ?_; rintro e_ w ⟨rfl, B_⟩; refine ⟨_, rfl, fun _ => B_, ?_⟩; clear E a; replace S := S.bel B_; intro a E
  clear B_
  refine Run.not rfl E rfl rfl rfl rfl ?_; clear E a; intro a E
  refine Run.nil ?_
  refine then_n ?_
  refine cond_F E rfl ?_
  refine wp_skip ?_
  refine then_n ?_
  refine wp_seq ?_
  refine wp_seq ?_
  refine region_plain (n := 19) [(0, .p), (1, .p), (2, .p), (3, .p), (4, .p), (5, .p), (6, .p), (7, .p), (8, .p), (9, .p), (10, .p), (11, .p), (12, .p), (13, .p), (14, .p), (15, .p), (16, .p), (17, .p), (18, .p)] rfl rfl ?_
  refine Run.move rfl E rfl rfl rfl ?_; clear E a; intro a E
  by_cases h1 : gr < 0
  · skip
    refine Run.lss rfl E rfl rfl rfl rfl (decide_eq_true (by omega)) ?_; clear E a; intro a E
    refine Run.move rfl E rfl rfl rfl ?_; clear E a; intro a E
    refine Run.off rfl E rfl rfl ?_; clear E a; intro a E
    refine Run.off rfl E rfl rfl ?_; clear E a; intro a E
    refine Run.pickT rfl E rfl rfl rfl rfl ?_; clear E a; intro a E
    refine Run.move rfl E rfl rfl rfl ?_; clear E a; intro a E
    refine Run.off rfl E rfl rfl ?_; clear E a; intro a E
    refine Run.off rfl E rfl rfl ?_; clear E a; intro a E
    refine Run.pickT rfl E rfl rfl rfl rfl ?_; clear E a; intro a E
    refine Run.move rfl E rfl rfl rfl ?_; clear E a; intro a E
    refine Run.off rfl E rfl rfl ?_; clear E a; intro a E
    refine Run.off rfl E rfl rfl ?_; clear E a; intro a E
    refine Run.pickT rfl E rfl rfl rfl rfl ?_; clear E a; intro a E
    refine Run.move rfl E rfl rfl rfl ?_; clear E a; intro a E
    refine Run.off rfl E rfl rfl ?_; clear E a; intro a E
    refine Run.off rfl E rfl rfl ?_; clear E a; intro a E
    refine Run.off rfl E rfl rfl ?_; clear E a; intro a E
    refine Run.pickT rfl E rfl rfl rfl rfl ?_; clear E a; intro a E
    refine Run.nil ?_
    refine then_n ?_
    refine cond_T E rfl ?_
    refine wp_seq ?_
    refine region_plain (n := 1) [(0, .p)] rfl rfl ?_
    refine Run.assign rfl E rfl rfl rfl ?_; clear E a; intro a E
    refine Run.nil ?_
    refine then_n ?_
    refine wp_ret ?_
    refine then_r ?_
    exact ret1 E Try.results20 rfl ⟨rfl, S.belT⟩
  · skip
    refine Run.lss rfl E rfl rfl rfl rfl (decide_eq_false (by omega)) ?_; clear E a; intro a E
    refine Run.move rfl E rfl rfl rfl ?_; clear E a; intro a E
    refine Run.move rfl E rfl rfl rfl ?_; clear E a; intro a E
    by_cases h2 : 99 < gr
    · skip
      refine Run.gtr rfl E rfl rfl rfl rfl (decide_eq_true (by omega)) ?_; clear E a; intro a E
      refine Run.pickF rfl E rfl rfl rfl rfl ?_; clear E a; intro a E
      refine Run.move rfl E rfl rfl rfl ?_; clear E a; intro a E
      refine Run.off rfl E rfl rfl ?_; clear E a; intro a E
      refine Run.off rfl E rfl rfl ?_; clear E a; intro a E
      refine Run.pickT rfl E rfl rfl rfl rfl ?_; clear E a; intro a E
      refine Run.move rfl E rfl rfl rfl ?_; clear E a; intro a E
      refine Run.off rfl E rfl rfl ?_; clear E a; intro a E
      refine Run.off rfl E rfl rfl ?_; clear E a; intro a E
      refine Run.pickT rfl E rfl rfl rfl rfl ?_; clear E a; intro a E
      refine Run.move rfl E rfl rfl rfl ?_; clear E a; intro a E
      refine Run.off rfl E rfl rfl ?_; clear E a; intro a E
      refine Run.off rfl E rfl rfl ?_; clear E a; intro a E
      refine Run.off rfl E rfl rfl ?_; clear E a; intro a E
      refine Run.pickT rfl E rfl rfl rfl rfl ?_; clear E a; intro a E
      refine Run.nil ?_
      refine then_n ?_
      refine cond_T E rfl ?_
      refine wp_seq ?_
      refine region_plain (n := 1) [(0, .p)] rfl rfl ?_
      refine Run.assign rfl E rfl rfl rfl ?_; clear E a; intro a E
      refine Run.nil ?_
      refine then_n ?_
      refine wp_ret ?_
      refine then_r ?_
      exact ret1 E Try.results20 rfl ⟨rfl, S.belT⟩
    · skip
      refine Run.gtr rfl E rfl rfl rfl rfl (decide_eq_false (by omega)) ?_; clear E a; intro a E
      refine Run.pickF rfl E rfl rfl rfl rfl ?_; clear E a; intro a E
      refine Run.move rfl E rfl rfl rfl ?_; clear E a; intro a E
      refine Run.move rfl E rfl rfl rfl ?_; clear E a; intro a E
      by_cases h3 : ev0 < 1
      · skip
        refine Run.lss rfl E rfl rfl rfl rfl (decide_eq_true (by omega)) ?_; clear E a; intro a E
        refine Run.pickF rfl E rfl rfl rfl rfl ?_; clear E a; intro a E
        refine Run.move rfl E rfl rfl rfl ?_; clear E a; intro a E
        refine Run.off rfl E rfl rfl ?_; clear E a; intro a E
        refine Run.off rfl E rfl rfl ?_; clear E a; intro a E
        refine Run.pickT rfl E rfl rfl rfl rfl ?_; clear E a; intro a E
        refine Run.move rfl E rfl rfl rfl ?_; clear E a; intro a E
        refine Run.off rfl E rfl rfl ?_; clear E a; intro a E
        refine Run.off rfl E rfl rfl ?_; clear E a; intro a E
        refine Run.off rfl E rfl rfl ?_; clear E a; intro a E
        refine Run.pickT rfl E rfl rfl rfl rfl ?_; clear E a; intro a E
        refine Run.nil ?_
        refine then_n ?_
        refine cond_T E rfl ?_
        refine wp_seq ?_
        refine region_plain (n := 1) [(0, .p)] rfl rfl ?_
        refine Run.assign rfl E rfl rfl rfl ?_; clear E a; intro a E
        refine Run.nil ?_
        refine then_n ?_
        refine wp_ret ?_
        refine then_r ?_
        exact ret1 E Try.results20 rfl ⟨rfl, S.belT⟩
      · skip
        refine Run.lss rfl E rfl rfl rfl rfl (decide_eq_false (by omega)) ?_; clear E a; intro a E
        refine Run.pickF rfl E rfl rfl rfl rfl ?_; clear E a; intro a E
        refine Run.move rfl E rfl rfl rfl ?_; clear E a; intro a E
        refine Run.move rfl E rfl rfl rfl ?_; clear E a; intro a E
        by_cases h4 : 1024 < ev0
        · skip
          refine Run.gtr rfl E rfl rfl rfl rfl (decide_eq_true (by omega)) ?_; clear E a; intro a E
          refine Run.pickF rfl E rfl rfl rfl rfl ?_; clear E a; intro a E
          refine Run.move rfl E rfl rfl rfl ?_; clear E a; intro a E
          refine Run.off rfl E rfl rfl ?_; clear E a; intro a E
          refine Run.off rfl E rfl rfl ?_; clear E a; intro a E
          refine Run.off rfl E rfl rfl ?_; clear E a; intro a E
          refine Run.pickT rfl E rfl rfl rfl rfl ?_; clear E a; intro a E
          refine Run.nil ?_
          refine then_n ?_
          refine cond_T E rfl ?_
          refine wp_seq ?_
          refine region_plain (n := 1) [(0, .p)] rfl rfl ?_
          refine Run.assign rfl E rfl rfl rfl ?_; clear E a; intro a E
          refine Run.nil ?_
          refine then_n ?_
          refine wp_ret ?_
          refine then_r ?_
          exact ret1 E Try.results20 rfl ⟨rfl, S.belT⟩
        · skip
          refine Run.gtr rfl E rfl rfl rfl rfl (decide_eq_false (by omega)) ?_; clear E a; intro a E
          refine Run.pickF rfl E rfl rfl rfl rfl ?_; clear E a; intro a E
          refine Run.move rfl E rfl rfl rfl ?_; clear E a; intro a E
          refine Run.move rfl E rfl rfl rfl ?_; clear E a; intro a E
          refine Run.len rfl E rfl rfl rfl Try.underlying50 ?_; clear E a; intro a E
          refine Run.gtr rfl E rfl rfl rfl rfl (decide_eq_true (by omega)) ?_; clear E a; intro a E
          refine Run.pickF rfl E rfl rfl rfl rfl ?_; clear E a; intro a E
          refine Run.nil ?_
          refine then_n ?_
          refine cond_T E rfl ?_
          refine wp_seq ?_
          refine region_plain (n := 1) [(0, .p)] rfl rfl ?_
          refine Run.assign rfl E rfl rfl rfl ?_; clear E a; intro a E
          refine Run.nil ?_
          refine then_n ?_
          refine wp_ret ?_
          refine then_r ?_
          exact ret1 E Try.results20 rfl ⟨rfl, S.belT⟩

theorem fpacks_ok (hG : G ≤ 99) (he0 : 1 ≤ ev) (he1 : ev ≤ 1024) (hL : Rd w0 L l.length 8 (stams l)) (hL2 : ∀ x ∈ l, x.ok w0) (hll0 : l.length ≤ 100) (hts : ts = takes G ev 16777216 (l.map StaM.s)) : Calls Try.prog 20 [.int .i64 (G : Int), .int .i64 (ev : Int), .slice L l.length cL].toArray w0 (fun r w' => r = .returned (.bool true) ∧ Bel w0 w') := by
  have S := St.nil [] w0
  have hll : l.length ≤ 200 := by omega
  have hok : TapeOK G ev ts := by rw [hts]; exact takes_ok _ hG he0 he1 _
  have hlim : ((tbytes G ev ts).length : Int) ≤ 16777216 := by rw [hts]; exact takes_lim (by decide) _
  have htl : ts.length ≤ l.length := by have := takes_len G ev 16777216 (l.map StaM.s); rw [← hts] at this; simpa using this
  have hpl := packB_len hok hlim
  refine fn_start Try.func20 rfl 50 rfl rfl [(0, _), (1, _), (2, _)] ⟨rfl, rfl, rfl, trivial⟩ ?_; intro a E
  refine wp_seq ?_
  refine region_plain (n := 1) [(0, .p)] rfl rfl ?_
  refine Run.assign rfl E rfl rfl rfl ?_; clear E a; intro a E
  refine Run.nil ?_
  refine then_n ?_
  refine wp_seq ?_
  refine wp_seq ?_
  refine region_plain (n := 2) [(0, .e), (1, .p)] rfl rfl ?_
  refine Run.call (args := []) rfl rfl E rfl rfl Try.func22 nm22 rfl rfl (anchor20) ?_; rintro e_ w ⟨rfl, B_⟩; refine ⟨_, rfl, fun _ => B_, ?_⟩; clear E a; replace S := S.bel B_; intro a E
  clear B_
  refine Run.not rfl E rfl rfl rfl rfl ?_; clear E a; intro a E
  refine Run.nil ?_
  refine then_n ?_
  refine cond_F E rfl ?_
  refine wp_skip ?_
  refine then_n ?_
  refine wp_seq ?_
  refine wp_seq ?_
  refine region_plain (n := 19) [(0, .p), (1, .p), (2, .p), (3, .p), (4, .p), (5, .p), (6, .p), (7, .p), (8, .p), (9, .p), (10, .p), (11, .p), (12, .p), (13, .p), (14, .p), (15, .p), (16, .p), (17, .p), (18, .p)] rfl rfl ?_
  refine Run.move rfl E rfl rfl rfl ?_; clear E a; intro a E
  refine Run.lss rfl E rfl rfl rfl rfl (decide_eq_false (by omega)) ?_; clear E a; intro a E
  refine Run.move rfl E rfl rfl rfl ?_; clear E a; intro a E
  refine Run.move rfl E rfl rfl rfl ?_; clear E a; intro a E
  refine Run.gtr rfl E rfl rfl rfl rfl (decide_eq_false (by omega)) ?_; clear E a; intro a E
  refine Run.pickF rfl E rfl rfl rfl rfl ?_; clear E a; intro a E
  refine Run.move rfl E rfl rfl rfl ?_; clear E a; intro a E
  refine Run.move rfl E rfl rfl rfl ?_; clear E a; intro a E
  refine Run.lss rfl E rfl rfl rfl rfl (decide_eq_false (by omega)) ?_; clear E a; intro a E
  refine Run.pickF rfl E rfl rfl rfl rfl ?_; clear E a; intro a E
  refine Run.move rfl E rfl rfl rfl ?_; clear E a; intro a E
  refine Run.move rfl E rfl rfl rfl ?_; clear E a; intro a E
  refine Run.gtr rfl E rfl rfl rfl rfl (decide_eq_false (by omega)) ?_; clear E a; intro a E
  refine Run.pickF rfl E rfl rfl rfl rfl ?_; clear E a; intro a E
  refine Run.move rfl E rfl rfl rfl ?_; clear E a; intro a E
  refine Run.move rfl E rfl rfl rfl ?_; clear E a; intro a E
  refine Run.len rfl E rfl rfl rfl Try.underlying50 ?_; clear E a; intro a E
  refine Run.gtr rfl E rfl rfl rfl rfl (decide_eq_false (by omega)) ?_; clear E a; intro a E
  refine Run.pickF rfl E rfl rfl rfl rfl ?_; clear E a; intro a E
  refine Run.nil ?_
  refine then_n ?_
  refine cond_F E rfl ?_
  refine wp_skip ?_
  refine then_n ?_
  refine wp_seq ?_
  refine region_plain (n := 9) [(0, .p), (1, .p), (2, .p), (3, .e), (4, .p), (5, .p), (6, .p), (7, .p), (8, .p)] rfl rfl ?_
  refine Run.move rfl E rfl rfl rfl ?_; clear E a; intro a E
  refine Run.move rfl E rfl rfl rfl ?_; clear E a; intro a E
  refine Run.move rfl E rfl rfl rfl ?_; clear E a; intro a E
  refine Run.call (args := [.int .i64 (G : Int), .int .i64 (ev : Int), .slice L l.length cL]) rfl rfl E rfl rfl Try.func37 nm37 rfl rfl (taped20_walk hG he0 he1 (hL.bel S.belT) (fun x hx => ⟨(hL2 x hx).1.bel S.belT, (hL2 x hx).2⟩) hll hts) ?_; rintro e_ w ⟨g, A, c, B, d, C, e, O, cO, own, hown, rfl, S_⟩; refine ⟨_, rfl, (fun _ => S_.belT), ?_⟩; clear E a; intro a E
  replace S : St _ _ _ [.obj _ _ [_, _, _, _, _, _, _, _, _, _, _, _, _], _, _, _, _, _] := St.call (A := []) (R := []) S S_; clear S_
  have hol : own.length = ts.length := by rw [← hown, List.length_map]
  refine Run.move rfl E rfl rfl rfl ?_; clear E a; intro a E
  refine Run.extract rfl E rfl rfl rfl rfl ?_; clear E a; intro a E
  refine Run.extract rfl E rfl rfl rfl rfl ?_; clear E a; intro a E
  refine Run.assign rfl E rfl rfl rfl ?_; clear E a; intro a E
  refine Run.assign rfl E rfl rfl rfl ?_; clear E a; intro a E
  refine Run.nil ?_
  refine then_n ?_
  refine wp_seq ?_
  refine region_drawS (n := 14) [(0, .p), (1, .p), (2, .p), (3, .p), (6, .p), (7, .p), (8, .p), (4, .e), (5, .t), (9, .e), (10, .t), (11, .p), (12, .p), (13, .p)] [0, 1, 3, 7, 15, 31, 7, 7, 7, 479, 991, 2047, 4095, 8191] S mixed rfl rfl (by kernel_rfl) (fun _ _ _ _ _ h => h) ?_; clear S; intro w S B_; clear B_
  refine Run.move rfl E rfl rfl rfl ?_; clear E a; intro a E
  refine Run.bin (v := .bool true) rfl E rfl rfl rfl rfl (fun _ => by kernel_rfl) ?_; clear E a; intro a E
  refine Run.move rfl E rfl rfl rfl ?_; clear E a; intro a E
  refine Run.move rfl E rfl rfl rfl ?_; clear E a; intro a E
  refine Run.move rfl E rfl rfl rfl ?_; clear E a; intro a E
  refine Run.move rfl E rfl rfl rfl ?_; clear E a; intro a E
  refine Run.move rfl E rfl rfl rfl ?_; clear E a; intro a E
  refine Run.call (args := [.pointer (some ⟨g, 0, none⟩)]) rfl rfl E rfl rfl Try.func24 nm24 rfl rfl (pack_walk (St.holdsL (A := [.obj g 128 [.int .i64 (G : Int), .int .i64 (ev : Int), .int .i64 16777216, .slice A ((tbytes G ev ts).length) c, .slice B ((tstarts G ev ts).length) d, .int .i64 ((lastS ts).kind), .int .i64 ((lastS ts).node), .int .i64 ((lastS ts).phase), .int .i64 ((lastS ts).pos), .int .i64 ((lastS ts).start), .int .i64 ((lastS ts).depth), .int .i64 ((lastS ts).org), .slice C ((lastS ts).caps.length) e], .row (.slice A ((tbytes G ev ts).length) c) 5 1 ((tbytes G ev ts).length) (u8s (tbytes G ev ts)), .row (.slice B ((tstarts G ev ts).length) d) 3 1 ((tstarts G ev ts).length) (ints (tstarts G ev ts)), .row (.slice C ((lastS ts).caps.length) e) 3 1 ((lastS ts).caps.length) (ints (lastS ts).caps)]) (R := [_, _]) (S.sel [0, 1, 2, 3, 4, 5] ([.obj g 128 [.int .i64 (G : Int), .int .i64 (ev : Int), .int .i64 16777216, .slice A ((tbytes G ev ts).length) c, .slice B ((tstarts G ev ts).length) d, .int .i64 ((lastS ts).kind), .int .i64 ((lastS ts).node), .int .i64 ((lastS ts).phase), .int .i64 ((lastS ts).pos), .int .i64 ((lastS ts).start), .int .i64 ((lastS ts).depth), .int .i64 ((lastS ts).org), .slice C ((lastS ts).caps.length) e], .row (.slice A ((tbytes G ev ts).length) c) 5 1 ((tbytes G ev ts).length) (u8s (tbytes G ev ts)), .row (.slice B ((tstarts G ev ts).length) d) 3 1 ((tstarts G ev ts).length) (ints (tstarts G ev ts)), .row (.slice C ((lastS ts).caps.length) e) 3 1 ((lastS ts).caps.length) (ints (lastS ts).caps)] ++ [_, _]) rfl rfl)) hok hlim) ?_; rintro e_ w ⟨X1, e2, rfl, S_⟩; refine ⟨_, rfl, (fun _ => S_.belT), ?_⟩; clear E a; intro a E
  replace S : St _ _ _ [_, .obj _ _ [_, _, _, _, _, _, _, _, _, _, _, _, _], _, _, _, _, _] := St.call (A := []) (R := [_, _, _, _, _, _]) S S_; clear S_
  refine Run.toStr (l := (packB G ev ts)) rfl rfl E rfl rfl rfl (S.rd 0 rfl) rfl Try.underlying22 Try.underlying5 Try.underlying9 ?_; clear E a; intro a E
  refine Run.call (args := [.int .i64 (G : Int), .int .i64 (ev : Int), .slice O own.length cO]) rfl rfl E rfl rfl Try.func80 nm80 rfl rfl (packed_walk (S.rd 5 rfl) (fun y hy => S.rowsRd (q := y.irow) 6 rfl (List.mem_map.2 ⟨y, hy, rfl⟩)) hown hok (by omega)) ?_; rintro e_ w ⟨X3, e4, rfl, S_⟩; refine ⟨_, rfl, (fun _ => S_.belT), ?_⟩; clear E a; intro a E
  replace S : St _ _ _ [_, _, .obj _ _ [_, _, _, _, _, _, _, _, _, _, _, _, _], _, _, _, _, _] := St.call (A := []) (R := [_, _, _, _, _, _, _]) S S_; clear S_
  refine Run.toStr (l := (packB G ev ts)) rfl rfl E rfl rfl rfl (S.rd 0 rfl) rfl Try.underlying22 Try.underlying5 Try.underlying9 ?_; clear E a; intro a E
  refine Run.eqs (b := true) rfl E rfl rfl rfl rfl (by simp) ?_; clear E a; intro a E
  refine Run.pickT rfl E rfl rfl rfl rfl ?_; clear E a; intro a E
  refine Run.assign rfl E rfl rfl rfl ?_; clear E a; intro a E
  refine Run.nil ?_
  refine then_n ?_
  refine wp_ret ?_
  exact ret1 E Try.results20 rfl ⟨rfl, S.belT⟩

theorem filePacks_walk (hL : Rd w0 L l.length 8 (stams l)) (hL2 : ∀ x ∈ l, x.ok w0) : Calls Try.prog 20 [.int .i64 gr, .int .i64 ev0, .slice L l.length cL].toArray w0 (fun r w' => r = .returned (.bool true) ∧ Bel w0 w') := by
  by_cases hn : (0 ≤ gr ∧ gr ≤ 99) ∧ (1 ≤ ev0 ∧ ev0 ≤ 1024) ∧ l.length ≤ 100
  · obtain ⟨⟨h1, h2⟩, ⟨h3, h4⟩, h5⟩ := hn
    obtain ⟨G, rfl⟩ : ∃ G : Nat, gr = (G : Int) := ⟨gr.toNat, by omega⟩
    obtain ⟨ev, rfl⟩ : ∃ ev : Nat, ev0 = (ev : Int) := ⟨ev0.toNat, by omega⟩
    have hG : G ≤ 99 := by omega
    have he0 : 1 ≤ ev := by omega
    have he1 : ev ≤ 1024 := by omega
    exact fpacks_ok hG he0 he1 hL hL2 h5 rfl
  · exact fpacks_out hn

end
end Go.Proofs.Ytlcglefbhlhcpaa.K
