/- TapeOwn walked. -/
import Derived.Test.YtlcglefbhlhcpaaKg
import Derived.Test.YtlcglefbhlhcpaaTaC
namespace Go.Proofs.Ytlcglefbhlhcpaa.K
open Go.RowKit
set_option linter.unusedVariables false
set_option maxRecDepth 100000
set_option maxHeartbeats 400000

section
variable {w0 : World} {L : Option Addr} {cL : Nat} {l : List StaM} {G ev k : Nat} {lim gr ev0 k0 x : Int} {ts : List Sta} {t : Sta}

theorem town_bad (hn : ¬ ((0 ≤ gr ∧ gr ≤ 99) ∧ (1 ≤ ev0 ∧ ev0 ≤ 1024) ∧ (0 ≤ lim ∧ lim ≤ 16777216))) : Calls Try.prog 17 [.agg #[.int .i64 gr, .int .i64 ev0, .int .i64 lim], .slice L l.length cL, .int .i64 x].toArray w0 (fun r w' => r = .returned (.bool true) ∧ Bel w0 w') := by
  have S := St.nil [] w0
  refine fn_start Try.func17 rfl 98 rfl rfl [(0, _), (1, _), (2, _)] ⟨rfl, rfl, rfl, trivial⟩ ?_; intro a E
  refine wp_seq ?_
  refine region_plain (n := 2) [(0, .e), (1, .p)] rfl rfl ?_
  refine Run.box (cs := [.int .i64 gr, .int .i64 ev0, .int .i64 lim]) rfl rfl E S rfl rfl rfl rfl ?_; clear E a S; intro b1 w a E S B_; clear B_
  refine Run.assign rfl E rfl rfl rfl ?_; clear E a; intro a E
  refine Run.nil ?_
  refine then_n ?_
  refine wp_seq ?_
  refine wp_seq ?_
  refine region_plain (n := 2) [(0, .e), (1, .p)] rfl rfl ?_
  refine Run.call (args := []) rfl rfl E rfl rfl Try.func68 nm68 rfl rfl (anchor19) ?_; rintro e_ w ⟨rfl, B_⟩; refine ⟨_, rfl, fun _ => B_, ?_⟩; clear E a; replace S := S.bel B_; intro a E
  clear B_
  refine Run.not rfl E rfl rfl rfl rfl ?_; clear E a; intro a E
  refine Run.nil ?_
  refine then_n ?_
  refine cond_F E rfl ?_
  refine wp_skip ?_
  refine then_n ?_
  refine wp_seq ?_
  refine wp_seq ?_
  refine region_plain (n := 8) [(0, .l), (1, .e), (2, .p), (3, .p), (4, .p), (5, .p), (6, .p), (7, .p)] rfl rfl ?_
  refine Run.loadN (cs := [.int .i64 gr, .int .i64 ev0, .int .i64 lim]) rfl rfl E S rfl rfl rfl ag102 rfl (fun _ s => objAll s 0 rfl) ?_; clear E a; intro a E
  refine Run.call (args := [.agg #[.int .i64 gr, .int .i64 ev0, .int .i64 lim]]) rfl rfl E rfl rfl Try.func69 nm69 rfl rfl (right19_bad hn) ?_; rintro e_ w ⟨rfl, B_⟩; refine ⟨_, rfl, fun _ => B_, ?_⟩; clear E a; replace S := S.bel B_; intro a E
  clear B_
  refine Run.not rfl E rfl rfl rfl rfl ?_; clear E a; intro a E
  refine Run.move rfl E rfl rfl rfl ?_; clear E a; intro a E
  refine Run.off rfl E rfl rfl ?_; clear E a; intro a E
  refine Run.off rfl E rfl rfl ?_; clear E a; intro a E
  refine Run.off rfl E rfl rfl ?_; clear E a; intro a E
  refine Run.pickT rfl E rfl rfl rfl rfl ?_; clear E a; intro a E
  refine Run.nil ?_
  refine then_n ?_
  refine cond_T E rfl ?_
  refine wp_seq ?_
  refine region_plain (n := 1) [(0, .p)] rfl rfl ?_
  refine Run.assign rfl E rfl rfl rfl ?_; clear E a; intro a E
  refine Run.nil ?_
  refine then_n ?_
  refine wp_ret ?_
  refine then_r ?_
  exact ret1 E Try.results17 rfl ⟨rfl, S.belT⟩

theorem town_long (hG : G ≤ 99) (he0 : 1 ≤ ev) (he1 : ev ≤ 1024) (hl0 : 0 ≤ lim) (hl1 : lim ≤ 16777216) (hll : (100 : Int) < (l.length : Int)) : Calls Try.prog 17 [.agg #[.int .i64 (G : Int), .int .i64 (ev : Int), .int .i64 lim], .slice L l.length cL, .int .i64 x].toArray w0 (fun r w' => r = .returned (.bool true) ∧ Bel w0 w') := by
  have S := St.nil [] w0
  refine fn_start Try.func17 rfl 98 rfl rfl [(0, _), (1, _), (2, _)] ⟨rfl, rfl, rfl, trivial⟩ ?_; intro a E
  refine wp_seq ?_
  refine region_plain (n := 2) [(0, .e), (1, .p)] rfl rfl ?_
  refine Run.box (cs := [.int .i64 (G : Int), .int .i64 (ev : Int), .int .i64 lim]) rfl rfl E S rfl rfl rfl rfl ?_; clear E a S; intro b1 w a E S B_; clear B_
  refine Run.assign rfl E rfl rfl rfl ?_; clear E a; intro a E
  refine Run.nil ?_
  refine then_n ?_
  refine wp_seq ?_
  refine wp_seq ?_
  refine region_plain (n := 2) [(0, .e), (1, .p)] rfl rfl ?_
  refine Run.call (args := []) rfl rfl E rfl rfl Try.func68 nm68 rfl rfl (anchor19) ?_; rintro e_ w ⟨rfl, B_⟩; refine ⟨_, rfl, fun _ => B_, ?_⟩; clear E a; replace S := S.bel B_; intro a E
  clear B_
  refine Run.not rfl E rfl rfl rfl rfl ?_; clear E a; intro a E
  refine Run.nil ?_
  refine then_n ?_
  refine cond_F E rfl ?_
  refine wp_skip ?_
  refine then_n ?_
  refine wp_seq ?_
  refine wp_seq ?_
  refine region_plain (n := 8) [(0, .l), (1, .e), (2, .p), (3, .p), (4, .p), (5, .p), (6, .p), (7, .p)] rfl rfl ?_
  refine Run.loadN (cs := [.int .i64 (G : Int), .int .i64 (ev : Int), .int .i64 lim]) rfl rfl E S rfl rfl rfl ag102 rfl (fun _ s => objAll s 0 rfl) ?_; clear E a; intro a E
  refine Run.call (args := [.agg #[.int .i64 (G : Int), .int .i64 (ev : Int), .int .i64 lim]]) rfl rfl E rfl rfl Try.func69 nm69 rfl rfl (right19_ok hG he0 he1 hl0 hl1) ?_; rintro e_ w ⟨rfl, B_⟩; refine ⟨_, rfl, fun _ => B_, ?_⟩; clear E a; replace S := S.bel B_; intro a E
  clear B_
  refine Run.not rfl E rfl rfl rfl rfl ?_; clear E a; intro a E
  refine Run.move rfl E rfl rfl rfl ?_; clear E a; intro a E
  refine Run.move rfl E rfl rfl rfl ?_; clear E a; intro a E
  refine Run.len rfl E rfl rfl rfl Try.underlying50 ?_; clear E a; intro a E
  refine Run.gtr rfl E rfl rfl rfl rfl (decide_eq_true (by omega)) ?_; clear E a; intro a E
  refine Run.pickF rfl E rfl rfl rfl rfl ?_; clear E a; intro a E
  refine Run.nil ?_
  refine then_n ?_
  refine cond_T E rfl ?_
  refine wp_seq ?_
  refine region_plain (n := 1) [(0, .p)] rfl rfl ?_
  refine Run.assign rfl E rfl rfl rfl ?_; clear E a; intro a E
  refine Run.nil ?_
  refine then_n ?_
  refine wp_ret ?_
  refine then_r ?_
  exact ret1 E Try.results17 rfl ⟨rfl, S.belT⟩

theorem town_ok (hG : G ≤ 99) (he0 : 1 ≤ ev) (he1 : ev ≤ 1024) (hl0 : 0 ≤ lim) (hl1 : lim ≤ 16777216) (hL : Rd w0 L l.length 8 (stams l)) (hL2 : ∀ x ∈ l, x.ok w0) (hll : l.length ≤ 100) (hts : ts = takes G ev lim (l.map StaM.s)) : Calls Try.prog 17 [.agg #[.int .i64 (G : Int), .int .i64 (ev : Int), .int .i64 lim], .slice L l.length cL, .int .i64 x].toArray w0 (fun r w' => r = .returned (.bool true) ∧ Bel w0 w') := by
  have S := St.nil [] w0
  have hok : TapeOK G ev ts := by rw [hts]; exact takes_ok _ hG he0 he1 _
  have hlim : ((tbytes G ev ts).length : Int) ≤ lim := by rw [hts]; exact takes_lim hl0 _
  have htl : ts.length ≤ l.length := by have := takes_len G ev lim (l.map StaM.s); rw [← hts] at this; simpa using this
  obtain ⟨z1, z2, z3⟩ := sat_le hok hlim hl1
  refine fn_start Try.func17 rfl 98 rfl rfl [(0, _), (1, _), (2, _)] ⟨rfl, rfl, rfl, trivial⟩ ?_; intro a E
  refine wp_seq ?_
  refine region_plain (n := 2) [(0, .e), (1, .p)] rfl rfl ?_
  refine Run.box (cs := [.int .i64 (G : Int), .int .i64 (ev : Int), .int .i64 lim]) rfl rfl E S rfl rfl rfl rfl ?_; clear E a S; intro b1 w a E S B_; clear B_
  refine Run.assign rfl E rfl rfl rfl ?_; clear E a; intro a E
  refine Run.nil ?_
  refine then_n ?_
  refine wp_seq ?_
  refine wp_seq ?_
  refine region_plain (n := 2) [(0, .e), (1, .p)] rfl rfl ?_
  refine Run.call (args := []) rfl rfl E rfl rfl Try.func68 nm68 rfl rfl (anchor19) ?_; rintro e_ w ⟨rfl, B_⟩; refine ⟨_, rfl, fun _ => B_, ?_⟩; clear E a; replace S := S.bel B_; intro a E
  clear B_
  refine Run.not rfl E rfl rfl rfl rfl ?_; clear E a; intro a E
  refine Run.nil ?_
  refine then_n ?_
  refine cond_F E rfl ?_
  refine wp_skip ?_
  refine then_n ?_
  refine wp_seq ?_
  refine wp_seq ?_
  refine region_plain (n := 8) [(0, .l), (1, .e), (2, .p), (3, .p), (4, .p), (5, .p), (6, .p), (7, .p)] rfl rfl ?_
  refine Run.loadN (cs := [.int .i64 (G : Int), .int .i64 (ev : Int), .int .i64 lim]) rfl rfl E S rfl rfl rfl ag102 rfl (fun _ s => objAll s 0 rfl) ?_; clear E a; intro a E
  refine Run.call (args := [.agg #[.int .i64 (G : Int), .int .i64 (ev : Int), .int .i64 lim]]) rfl rfl E rfl rfl Try.func69 nm69 rfl rfl (right19_ok hG he0 he1 hl0 hl1) ?_; rintro e_ w ⟨rfl, B_⟩; refine ⟨_, rfl, fun _ => B_, ?_⟩; clear E a; replace S := S.bel B_; intro a E
  clear B_
  refine Run.not rfl E rfl rfl rfl rfl ?_; clear E a; intro a E
  refine Run.move rfl E rfl rfl rfl ?_; clear E a; intro a E
  refine Run.move rfl E rfl rfl rfl ?_; clear E a; intro a E
  refine Run.len rfl E rfl rfl rfl Try.underlying50 ?_; clear E a; intro a E
  refine Run.gtr rfl E rfl rfl rfl rfl (decide_eq_false (by omega)) ?_; clear E a; intro a E
  refine Run.pickF rfl E rfl rfl rfl rfl ?_; clear E a; intro a E
  refine Run.nil ?_
  refine then_n ?_
  refine cond_F E rfl ?_
  refine wp_skip ?_
  refine then_n ?_
  refine wp_seq ?_
  refine region_plain (n := 8) [(0, .l), (1, .p), (2, .e), (3, .p), (4, .p), (5, .p), (6, .p), (7, .p)] rfl rfl ?_
  refine Run.loadN (cs := [.int .i64 (G : Int), .int .i64 (ev : Int), .int .i64 lim]) rfl rfl E S rfl rfl rfl ag102 rfl (fun _ s => objAll s 0 rfl) ?_; clear E a; intro a E
  refine Run.move rfl E rfl rfl rfl ?_; clear E a; intro a E
  refine Run.call (args := [.agg #[.int .i64 (G : Int), .int .i64 (ev : Int), .int .i64 lim], .slice L l.length cL]) rfl rfl E rfl rfl Try.func70 nm70 rfl rfl (taped19_walk hG he0 he1 hl0 hl1 (hL.bel S.belT) (fun x hx => ⟨(hL2 x hx).1.bel S.belT, (hL2 x hx).2⟩) (by omega) hts) ?_; rintro e_ w ⟨g, A, c, B, d, C, e, O, cO, own, hown, rfl, S_⟩; refine ⟨_, rfl, (fun _ => S_.belT), ?_⟩; clear E a; intro a E
  replace S : St _ _ _ [.obj _ _ [_, _, _, _, _, _, _, _, _, _, _, _, _], _, _, _, _, _, .obj _ _ [_, _, _]] := St.call (A := []) (R := [_]) S S_; clear S_
  have hol : own.length = ts.length := by rw [← hown, List.length_map]
  refine Run.move rfl E rfl rfl rfl ?_; clear E a; intro a E
  refine Run.extract rfl E rfl rfl rfl rfl ?_; clear E a; intro a E
  refine Run.extract rfl E rfl rfl rfl rfl ?_; clear E a; intro a E
  refine Run.assign rfl E rfl rfl rfl ?_; clear E a; intro a E
  refine Run.assign rfl E rfl rfl rfl ?_; clear E a; intro a E
  refine Run.nil ?_
  refine then_n ?_
  refine wp_seq ?_
  refine wp_seq ?_
  refine region_plain (n := 2) [(0, .p), (1, .p)] rfl rfl ?_
  refine Run.move rfl E rfl rfl rfl ?_; clear E a; intro a E
  refine Run.bin (v := .bool false) rfl E rfl rfl rfl rfl (fun _ => by kernel_rfl) ?_; clear E a; intro a E
  refine Run.nil ?_
  refine then_n ?_
  refine cond_F E rfl ?_
  refine wp_skip ?_
  refine then_n ?_
  refine wp_seq ?_
  refine wp_seq ?_
  refine region_plain (n := 3) [(0, .p), (1, .p), (2, .p)] rfl rfl ?_
  refine Run.move rfl E rfl rfl rfl ?_; clear E a; intro a E
  refine Run.len rfl E rfl rfl rfl Try.underlying50 ?_; clear E a; intro a E
  refine Run.move rfl E rfl rfl rfl ?_; clear E a; intro a E
  refine Run.nil ?_
  refine then_n ?_
  refine wp_block ?_
  have S : St _ _ _ [_, _, _, _, _, _, _] := S.sel [6, 0, 1, 2, 3, 4, 5] _ rfl rfl
  have S := S.drop1
  refine wp_loop_ghost (fun n_ a w => ∃ j : Nat, own.length - j = n_ ∧ Env 98 [(2, .int .i64 x), (6, .bool false), (7, .pointer (some ⟨g, 0, none⟩)), (8, .slice O own.length cO), (39, .int .i64 (own.length : Int)), (40, .int .i64 (j : Int))] a ∧ St _ _ w [.obj g 128 [.int .i64 (G : Int), .int .i64 (ev : Int), .int .i64 lim, .slice A ((tbytes G ev ts).length) c, .slice B ((tstarts G ev ts).length) d, .int .i64 ((lastS ts).kind), .int .i64 ((lastS ts).node), .int .i64 ((lastS ts).phase), .int .i64 ((lastS ts).pos), .int .i64 ((lastS ts).start), .int .i64 ((lastS ts).depth), .int .i64 ((lastS ts).org), .slice C ((lastS ts).caps.length) e], .row (.slice A ((tbytes G ev ts).length) c) 5 1 ((tbytes G ev ts).length) (u8s (tbytes G ev ts)), .row (.slice B ((tstarts G ev ts).length) d) 3 1 ((tstarts G ev ts).length) (ints (tstarts G ev ts)), .row (.slice C ((lastS ts).caps.length) e) 3 1 ((lastS ts).caps.length) (ints (lastS ts).caps), .row (.slice O own.length cO) 34 8 own.length (stams own), .rows (own.map StaM.irow)] ∧ (j ≤ own.length)) _ ⟨0, rfl, E.keeps [(2, _), (6, _), (7, _), (8, _), (39, _), (40, _)] ⟨rfl, rfl, rfl, rfl, rfl, rfl, trivial⟩, S, Nat.zero_le _⟩ ?_
  clear E a S
  rintro n_ a w ⟨j, rfl, E, S, hj⟩
  refine wp_seq ?_
  refine region_plain (n := 1) [(0, .p)] rfl rfl ?_
  by_cases hlt : j < own.length
  · skip
    obtain ⟨t, ht⟩ : ∃ t, ts[j]? = some t := ⟨_, List.getElem?_eq_getElem (by omega)⟩
    have htc := right_capl (hok.right t (List.mem_of_getElem? ht))
    have hem := Nat.mod_lt j he0
    refine Run.lss rfl E rfl rfl rfl rfl (decide_eq_true (by omega)) ?_; clear E a; intro a E
    refine Run.nil ?_
    refine then_n ?_
    refine wp_seq ?_
    refine cond_T E rfl ?_
    refine wp_skip ?_
    refine then_n ?_
    refine wp_seq ?_
    refine wp_block ?_
    refine wp_seq ?_
    refine region_plain (n := 2) [(0, .p), (1, .p)] rfl rfl ?_
    refine Run.move rfl E rfl rfl rfl ?_; clear E a; intro a E
    refine Run.assign rfl E rfl rfl rfl ?_; clear E a; intro a E
    refine Run.nil ?_
    refine then_n ?_
    refine wp_seq ?_
    refine region_plain (n := 11) [(0, .p), (1, .p), (2, .e), (3, .p), (4, .p), (5, .p), (6, .p), (7, .e), (8, .l), (9, .p), (10, .p)] rfl rfl ?_
    refine Run.move rfl E rfl rfl rfl ?_; clear E a; intro a E
    refine Run.move rfl E rfl rfl rfl ?_; clear E a; intro a E
    refine Run.call (args := [.pointer (some ⟨g, 0, none⟩), .int .i64 (j : Int)]) rfl rfl E rfl rfl Try.func41 nm41 rfl rfl (tat_ok (k := j) (t := t) (St.holdsL (A := [.obj g 128 [.int .i64 (G : Int), .int .i64 (ev : Int), .int .i64 lim, .slice A ((tbytes G ev ts).length) c, .slice B ((tstarts G ev ts).length) d, .int .i64 ((lastS ts).kind), .int .i64 ((lastS ts).node), .int .i64 ((lastS ts).phase), .int .i64 ((lastS ts).pos), .int .i64 ((lastS ts).start), .int .i64 ((lastS ts).depth), .int .i64 ((lastS ts).org), .slice C ((lastS ts).caps.length) e], .row (.slice A ((tbytes G ev ts).length) c) 5 1 ((tbytes G ev ts).length) (u8s (tbytes G ev ts)), .row (.slice B ((tstarts G ev ts).length) d) 3 1 ((tstarts G ev ts).length) (ints (tstarts G ev ts)), .row (.slice C ((lastS ts).caps.length) e) 3 1 ((lastS ts).caps.length) (ints (lastS ts).caps)]) (R := [_, _]) (S.sel [0, 1, 2, 3, 4, 5] ([.obj g 128 [.int .i64 (G : Int), .int .i64 (ev : Int), .int .i64 lim, .slice A ((tbytes G ev ts).length) c, .slice B ((tstarts G ev ts).length) d, .int .i64 ((lastS ts).kind), .int .i64 ((lastS ts).node), .int .i64 ((lastS ts).phase), .int .i64 ((lastS ts).pos), .int .i64 ((lastS ts).start), .int .i64 ((lastS ts).depth), .int .i64 ((lastS ts).org), .slice C ((lastS ts).caps.length) e], .row (.slice A ((tbytes G ev ts).length) c) 5 1 ((tbytes G ev ts).length) (u8s (tbytes G ev ts)), .row (.slice B ((tstarts G ev ts).length) d) 3 1 ((tstarts G ev ts).length) (ints (tstarts G ev ts)), .row (.slice C ((lastS ts).caps.length) e) 3 1 ((lastS ts).caps.length) (ints (lastS ts).caps)] ++ [_, _]) rfl rfl)) hok hlim hl1 ht) ?_; rintro e_ w ⟨D2, e3, rfl, S_⟩; refine ⟨_, rfl, (fun _ => S_.belT), ?_⟩; clear E a; intro a E
    replace S : St _ _ _ [_, .obj _ _ [_, _, _, _, _, _, _, _, _, _, _, _, _], _, _, _, _, _] := St.call (A := []) (R := [_, _, _, _, _, _]) S S_; clear S_
    refine Run.move rfl E rfl rfl rfl ?_; clear E a; intro a E
    refine Run.extract rfl E rfl rfl rfl rfl ?_; clear E a; intro a E
    refine Run.extract rfl E rfl rfl rfl rfl ?_; clear E a; intro a E
    refine Run.extract rfl E rfl rfl rfl rfl ?_; clear E a; intro a E
    refine Run.alloc rfl rfl E S rfl rfl z34 rfl ?_; clear E a S; intro b4 w a E S B_; clear B_
    refine Run.store (news := [.int .i64 t.kind, .int .i64 t.node, .int .i64 t.phase, .int .i64 t.pos, .int .i64 t.start, .int .i64 t.depth, .int .i64 t.org, .slice D2 t.caps.length e3]) (cs' := [_, _, _, _, _, _, _, _]) (hp' := [_, _, _, _, _, _, _, _]) 0 rfl E S rfl rfl rfl rfl rfl sz34 rfl rfl rfl rfl ?_; clear S; intro w S
    refine Run.assign rfl E rfl rfl rfl ?_; clear E a; intro a E
    refine Run.assign rfl E rfl rfl rfl ?_; clear E a; intro a E
    refine Run.nil ?_
    refine then_n ?_
    refine wp_seq ?_
    refine region_plain (n := 4) [(0, .p), (1, .l), (2, .p), (3, .p)] rfl rfl ?_
    refine Run.fieldAddr rfl E rfl rfl rfl fo34_7 (rfl) ?_; clear E a; intro a E
    refine Run.load1 rfl rfl E S rfl rfl rfl one32 (fun _ s => s.objCell 0 7 rfl rfl) ?_; clear E a; intro a E
    refine Run.len rfl E rfl rfl rfl Try.underlying32 ?_; clear E a; intro a E
    refine Run.move rfl E rfl rfl rfl ?_; clear E a; intro a E
    refine Run.nil ?_
    refine then_n ?_
    refine wp_block ?_
    replace S : St _ _ _ [_, _, _, _, _, _, _, _] := S.sel [0, 1, 2, 3, 4, 5, 6, 7] _ rfl rfl
    refine wp_loop_ghost (fun n_ a w => ∃ i : Nat, ∃ mm : List Int, t.caps.length - i = n_ ∧ Env 98 [(2, .int .i64 x), (6, .bool false), (7, .pointer (some ⟨g, 0, none⟩)), (8, .slice O own.length cO), (10, .pointer (some ⟨b4, 0, none⟩)), (39, .int .i64 (own.length : Int)), (40, .int .i64 (j : Int)), (52, .int .i64 (t.caps.length : Int)), (53, .int .i64 (i : Int))] a ∧ St _ _ w [.obj b4 34 [.int .i64 t.kind, .int .i64 t.node, .int .i64 t.phase, .int .i64 t.pos, .int .i64 t.start, .int .i64 t.depth, .int .i64 t.org, .slice D2 t.caps.length e3], .row (.slice D2 t.caps.length e3) 3 1 t.caps.length (ints mm), .obj g 128 [.int .i64 (G : Int), .int .i64 (ev : Int), .int .i64 lim, .slice A ((tbytes G ev ts).length) c, .slice B ((tstarts G ev ts).length) d, .int .i64 ((lastS ts).kind), .int .i64 ((lastS ts).node), .int .i64 ((lastS ts).phase), .int .i64 ((lastS ts).pos), .int .i64 ((lastS ts).start), .int .i64 ((lastS ts).depth), .int .i64 ((lastS ts).org), .slice C ((lastS ts).caps.length) e], .row (.slice A ((tbytes G ev ts).length) c) 5 1 ((tbytes G ev ts).length) (u8s (tbytes G ev ts)), .row (.slice B ((tstarts G ev ts).length) d) 3 1 ((tstarts G ev ts).length) (ints (tstarts G ev ts)), .row (.slice C ((lastS ts).caps.length) e) 3 1 ((lastS ts).caps.length) (ints (lastS ts).caps), .row (.slice O own.length cO) 34 8 own.length (stams own), .rows (own.map StaM.irow)] ∧ (i ≤ t.caps.length) ∧ (mm.length = t.caps.length)) _ ⟨0, t.caps, rfl, E.keeps [(2, _), (6, _), (7, _), (8, _), (10, _), (39, _), (40, _), (52, _), (53, _)] ⟨rfl, rfl, rfl, rfl, rfl, rfl, rfl, rfl, rfl, trivial⟩, S, Nat.zero_le _, rfl⟩ ?_
    clear E a S
    rintro n_ a w ⟨i, mm, rfl, E, S, hi, hmm⟩
    refine wp_seq ?_
    refine region_plain (n := 1) [(0, .p)] rfl rfl ?_
    by_cases hli : i < t.caps.length
    · skip
      obtain ⟨bD, rfl⟩ := S.rowAddr 1 rfl (by omega)
      refine Run.lss rfl E rfl rfl rfl rfl (decide_eq_true (by omega)) ?_; clear E a; intro a E
      refine Run.nil ?_
      refine then_n ?_
      refine wp_seq ?_
      refine cond_T E rfl ?_
      refine wp_skip ?_
      refine then_n ?_
      refine wp_seq ?_
      refine wp_block ?_
      refine wp_seq ?_
      refine region_plain (n := 2) [(0, .p), (1, .p)] rfl rfl ?_
      refine Run.move rfl E rfl rfl rfl ?_; clear E a; intro a E
      refine Run.assign rfl E rfl rfl rfl ?_; clear E a; intro a E
      refine Run.nil ?_
      refine then_n ?_
      refine region_plain (n := 6) [(0, .p), (1, .l), (2, .p), (3, .p), (4, .p), (5, .l)] rfl rfl ?_
      refine Run.fieldAddr rfl E rfl rfl rfl fo34_7 (rfl) ?_; clear E a; intro a E
      refine Run.load1 rfl rfl E S rfl rfl rfl one32 (fun _ s => s.objCell 0 7 rfl rfl) ?_; clear E a; intro a E
      refine Run.move rfl E rfl rfl rfl ?_; clear E a; intro a E
      refine Run.move rfl E rfl rfl rfl ?_; clear E a; intro a E
      refine Run.indexAddr rfl E rfl rfl rfl rfl Try.underlying32 sz3 (by omega) (ix_at (m' := i) (o := i) (by omega) (Nat.mul_one _)) ?_; clear E a; intro a E
      refine Run.storeRow (hp' := [_, _, _, _, _, _, _, _]) 1 rfl E S rfl rfl rfl rfl (by rw [ints_len]; omega) sz3 rfl rfl ?_; clear S; intro w S
      refine Run.nil ?_
      refine blk_n ?_
      refine then_n ?_
      refine region_plain (n := 2) [(0, .p), (1, .p)] rfl rfl ?_
      refine Run.add rfl E rfl rfl rfl rfl (i64_ok (by omega)) ?_; clear E a; intro a E
      refine Run.move rfl E rfl rfl rfl ?_; clear E a; intro a E
      refine Run.nil ?_
      refine then_n ?_
      replace E := E.setv 53 rfl (show Value.int .i64 ((i : Int) + 1) = .int .i64 ((i + 1 : Nat) : Int) from rfl)
      have es : (ints mm).set i (.int .i64 x) = ints (mm.set i x) := by simp [ints, List.map_set]
      rw [es] at S
      exact ⟨_, (by omega), (i + 1), (mm.set i x), rfl, E.keeps [(2, _), (6, _), (7, _), (8, _), (10, _), (39, _), (40, _), (52, _), (53, _)] ⟨rfl, rfl, rfl, rfl, rfl, rfl, rfl, rfl, rfl, trivial⟩, S, (by omega), (by simp; exact hmm)⟩
    · skip
      refine Run.lss rfl E rfl rfl rfl rfl (decide_eq_false (by omega)) ?_; clear E a; intro a E
      refine Run.nil ?_
      refine then_n ?_
      refine wp_seq ?_
      refine cond_F E rfl ?_
      refine wp_exit ?_
      refine then_x ?_
      refine then_x ?_
      refine blk_x ?_
      refine blk_n ?_
      refine then_n ?_
      refine region_plain (n := 2) [(0, .p), (1, .p)] rfl rfl ?_
      refine Run.add rfl E rfl rfl rfl rfl (i64_ok (by omega)) ?_; clear E a; intro a E
      refine Run.move rfl E rfl rfl rfl ?_; clear E a; intro a E
      refine Run.nil ?_
      refine then_n ?_
      replace E := E.setv 40 rfl (show Value.int .i64 ((j : Int) + 1) = .int .i64 ((j + 1 : Nat) : Int) from rfl)
      have S : St _ _ _ [_, _, _, _, _, _, _, _] := S.sel [0, 1, 2, 3, 4, 5, 6, 7] _ rfl rfl
      have S := S.drop1.drop1
      exact ⟨_, (by omega), (j + 1), rfl, E.keeps [(2, _), (6, _), (7, _), (8, _), (39, _), (40, _)] ⟨rfl, rfl, rfl, rfl, rfl, rfl, trivial⟩, S, (by omega)⟩
  · skip
    refine Run.lss rfl E rfl rfl rfl rfl (decide_eq_false (by omega)) ?_; clear E a; intro a E
    refine Run.nil ?_
    refine then_n ?_
    refine wp_seq ?_
    refine cond_F E rfl ?_
    refine wp_exit ?_
    refine then_x ?_
    refine then_x ?_
    refine blk_x ?_
    refine then_n ?_
    refine wp_seq ?_
    refine region_plain (n := 3) [(0, .p), (1, .e), (2, .p)] rfl rfl ?_
    refine Run.move rfl E rfl rfl rfl ?_; clear E a; intro a E
    refine Run.call (args := [.pointer (some ⟨g, 0, none⟩)]) rfl rfl E rfl rfl Try.func72 nm72 rfl rfl (tape_bytes (St.holdsL (A := [.obj g 128 [.int .i64 (G : Int), .int .i64 (ev : Int), .int .i64 lim, .slice A ((tbytes G ev ts).length) c, .slice B ((tstarts G ev ts).length) d, .int .i64 ((lastS ts).kind), .int .i64 ((lastS ts).node), .int .i64 ((lastS ts).phase), .int .i64 ((lastS ts).pos), .int .i64 ((lastS ts).start), .int .i64 ((lastS ts).depth), .int .i64 ((lastS ts).org), .slice C ((lastS ts).caps.length) e], .row (.slice A ((tbytes G ev ts).length) c) 5 1 ((tbytes G ev ts).length) (u8s (tbytes G ev ts)), .row (.slice B ((tstarts G ev ts).length) d) 3 1 ((tstarts G ev ts).length) (ints (tstarts G ev ts)), .row (.slice C ((lastS ts).caps.length) e) 3 1 ((lastS ts).caps.length) (ints (lastS ts).caps)]) (R := [_, _]) (S.sel [0, 1, 2, 3, 4, 5] ([.obj g 128 [.int .i64 (G : Int), .int .i64 (ev : Int), .int .i64 lim, .slice A ((tbytes G ev ts).length) c, .slice B ((tstarts G ev ts).length) d, .int .i64 ((lastS ts).kind), .int .i64 ((lastS ts).node), .int .i64 ((lastS ts).phase), .int .i64 ((lastS ts).pos), .int .i64 ((lastS ts).start), .int .i64 ((lastS ts).depth), .int .i64 ((lastS ts).org), .slice C ((lastS ts).caps.length) e], .row (.slice A ((tbytes G ev ts).length) c) 5 1 ((tbytes G ev ts).length) (u8s (tbytes G ev ts)), .row (.slice B ((tstarts G ev ts).length) d) 3 1 ((tstarts G ev ts).length) (ints (tstarts G ev ts)), .row (.slice C ((lastS ts).caps.length) e) 3 1 ((lastS ts).caps.length) (ints (lastS ts).caps)] ++ [_, _]) rfl rfl)) (by omega)) ?_; rintro e_ w ⟨D5, e6, rfl, S_⟩; refine ⟨_, rfl, (fun _ => S_.belT), ?_⟩; clear E a; intro a E
    replace S : St _ _ _ [_, .obj _ _ [_, _, _, _, _, _, _, _, _, _, _, _, _], _, _, _, _, _] := St.call (A := []) (R := [_, _, _, _, _, _]) S S_; clear S_
    refine Run.assign rfl E rfl rfl rfl ?_; clear E a; intro a E
    refine Run.nil ?_
    refine then_n ?_
    refine wp_seq ?_
    refine wp_seq ?_
    refine region_plain (n := 3) [(0, .p), (1, .p), (2, .p)] rfl rfl ?_
    refine Run.move rfl E rfl rfl rfl ?_; clear E a; intro a E
    refine Run.len rfl E rfl rfl rfl Try.underlying22 ?_; clear E a; intro a E
    refine Run.move rfl E rfl rfl rfl ?_; clear E a; intro a E
    refine Run.nil ?_
    refine then_n ?_
    refine wp_block ?_
    replace S : St _ _ _ [_, _, _, _, _, _, _] := S.sel [0, 1, 2, 3, 4, 5, 6] _ rfl rfl
    refine wp_loop_ghost (fun n_ a w => ∃ i : Nat, ∃ mb : List Nat, (tbytes G ev ts).length - i = n_ ∧ Env 98 [(6, .bool false), (7, .pointer (some ⟨g, 0, none⟩)), (8, .slice O own.length cO), (14, .slice D5 ((tbytes G ev ts).length) e6), (66, .int .i64 (((tbytes G ev ts).length : Nat) : Int)), (67, .int .i64 (i : Int))] a ∧ St _ _ w [.row (.slice D5 ((tbytes G ev ts).length) e6) 5 1 ((tbytes G ev ts).length) (u8s mb), .obj g 128 [.int .i64 (G : Int), .int .i64 (ev : Int), .int .i64 lim, .slice A ((tbytes G ev ts).length) c, .slice B ((tstarts G ev ts).length) d, .int .i64 ((lastS ts).kind), .int .i64 ((lastS ts).node), .int .i64 ((lastS ts).phase), .int .i64 ((lastS ts).pos), .int .i64 ((lastS ts).start), .int .i64 ((lastS ts).depth), .int .i64 ((lastS ts).org), .slice C ((lastS ts).caps.length) e], .row (.slice A ((tbytes G ev ts).length) c) 5 1 ((tbytes G ev ts).length) (u8s (tbytes G ev ts)), .row (.slice B ((tstarts G ev ts).length) d) 3 1 ((tstarts G ev ts).length) (ints (tstarts G ev ts)), .row (.slice C ((lastS ts).caps.length) e) 3 1 ((lastS ts).caps.length) (ints (lastS ts).caps), .row (.slice O own.length cO) 34 8 own.length (stams own), .rows (own.map StaM.irow)] ∧ (i ≤ (tbytes G ev ts).length) ∧ (mb.length = (tbytes G ev ts).length)) _ ⟨0, (tbytes G ev ts), rfl, E.keeps [(6, _), (7, _), (8, _), (14, _), (66, _), (67, _)] ⟨rfl, rfl, rfl, rfl, rfl, rfl, trivial⟩, S, Nat.zero_le _, rfl⟩ ?_
    clear E a S
    rintro n_ a w ⟨i, mb, rfl, E, S, hi, hmb⟩
    refine wp_seq ?_
    refine region_plain (n := 1) [(0, .p)] rfl rfl ?_
    by_cases hlb : i < (tbytes G ev ts).length
    · skip
      obtain ⟨bB, rfl⟩ := S.rowAddr 0 rfl (by omega)
      refine Run.lss rfl E rfl rfl rfl rfl (decide_eq_true (by omega)) ?_; clear E a; intro a E
      refine Run.nil ?_
      refine then_n ?_
      refine wp_seq ?_
      refine cond_T E rfl ?_
      refine wp_skip ?_
      refine then_n ?_
      refine wp_seq ?_
      refine wp_block ?_
      refine wp_seq ?_
      refine region_plain (n := 2) [(0, .p), (1, .p)] rfl rfl ?_
      refine Run.move rfl E rfl rfl rfl ?_; clear E a; intro a E
      refine Run.assign rfl E rfl rfl rfl ?_; clear E a; intro a E
      refine Run.nil ?_
      refine then_n ?_
      refine region_plain (n := 4) [(0, .p), (1, .p), (2, .p), (3, .l)] rfl rfl ?_
      refine Run.move rfl E rfl rfl rfl ?_; clear E a; intro a E
      refine Run.move rfl E rfl rfl rfl ?_; clear E a; intro a E
      refine Run.indexAddr rfl E rfl rfl rfl rfl Try.underlying22 sz5 (by omega) (ix_at (m' := i) (o := i) (by omega) (Nat.mul_one _)) ?_; clear E a; intro a E
      refine Run.storeRow (hp' := [_, _, _, _, _, _, _]) 0 rfl E S rfl rfl rfl rfl (by rw [u8s_len]; omega) sz5 rfl rfl ?_; clear S; intro w S
      refine Run.nil ?_
      refine blk_n ?_
      refine then_n ?_
      refine region_plain (n := 2) [(0, .p), (1, .p)] rfl rfl ?_
      refine Run.add rfl E rfl rfl rfl rfl (i64_ok (by omega)) ?_; clear E a; intro a E
      refine Run.move rfl E rfl rfl rfl ?_; clear E a; intro a E
      refine Run.nil ?_
      refine then_n ?_
      replace E := E.setv 67 rfl (show Value.int .i64 ((i : Int) + 1) = .int .i64 ((i + 1 : Nat) : Int) from rfl)
      have es : (u8s mb).set i (.int .u8 255) = u8s (mb.set i 255) := by simp [u8s, List.map_set]
      rw [es] at S
      exact ⟨_, (by omega), (i + 1), (mb.set i 255), rfl, E.keeps [(6, _), (7, _), (8, _), (14, _), (66, _), (67, _)] ⟨rfl, rfl, rfl, rfl, rfl, rfl, trivial⟩, S, (by omega), (by simp; exact hmb)⟩
    · skip
      refine Run.lss rfl E rfl rfl rfl rfl (decide_eq_false (by omega)) ?_; clear E a; intro a E
      refine Run.nil ?_
      refine then_n ?_
      refine wp_seq ?_
      refine cond_F E rfl ?_
      refine wp_exit ?_
      refine then_x ?_
      refine then_x ?_
      refine blk_x ?_
      refine then_n ?_
      refine wp_seq ?_
      refine wp_seq ?_
      refine region_plain (n := 3) [(0, .p), (1, .p), (2, .p)] rfl rfl ?_
      refine Run.move rfl E rfl rfl rfl ?_; clear E a; intro a E
      refine Run.len rfl E rfl rfl rfl Try.underlying50 ?_; clear E a; intro a E
      refine Run.move rfl E rfl rfl rfl ?_; clear E a; intro a E
      refine Run.nil ?_
      refine then_n ?_
      refine wp_block ?_
      have S : St _ _ _ [_, _, _, _, _, _, _] := S.sel [0, 1, 2, 3, 4, 5, 6] _ rfl rfl
      have S := S.drop1
      refine wp_loop_ghost (fun n_ a w => ∃ j : Nat, own.length - j = n_ ∧ Env 98 [(7, .pointer (some ⟨g, 0, none⟩)), (8, .slice O own.length cO), (75, .int .i64 (own.length : Int)), (76, .int .i64 (j : Int))] a ∧ St _ _ w [.obj g 128 [.int .i64 (G : Int), .int .i64 (ev : Int), .int .i64 lim, .slice A ((tbytes G ev ts).length) c, .slice B ((tstarts G ev ts).length) d, .int .i64 ((lastS ts).kind), .int .i64 ((lastS ts).node), .int .i64 ((lastS ts).phase), .int .i64 ((lastS ts).pos), .int .i64 ((lastS ts).start), .int .i64 ((lastS ts).depth), .int .i64 ((lastS ts).org), .slice C ((lastS ts).caps.length) e], .row (.slice A ((tbytes G ev ts).length) c) 5 1 ((tbytes G ev ts).length) (u8s (tbytes G ev ts)), .row (.slice B ((tstarts G ev ts).length) d) 3 1 ((tstarts G ev ts).length) (ints (tstarts G ev ts)), .row (.slice C ((lastS ts).caps.length) e) 3 1 ((lastS ts).caps.length) (ints (lastS ts).caps), .row (.slice O own.length cO) 34 8 own.length (stams own), .rows (own.map StaM.irow)] ∧ (j ≤ own.length)) _ ⟨0, rfl, E.keeps [(7, _), (8, _), (75, _), (76, _)] ⟨rfl, rfl, rfl, rfl, trivial⟩, S, Nat.zero_le _⟩ ?_
      clear E a S
      rintro n_ a w ⟨j, rfl, E, S, hj⟩
      refine wp_seq ?_
      refine region_plain (n := 1) [(0, .p)] rfl rfl ?_
      by_cases hlt : j < own.length
      · skip
        obtain ⟨t, ht⟩ : ∃ t, ts[j]? = some t := ⟨_, List.getElem?_eq_getElem (by omega)⟩
        have htc := right_capl (hok.right t (List.mem_of_getElem? ht))
        have hem := Nat.mod_lt j he0
        refine Run.lss rfl E rfl rfl rfl rfl (decide_eq_true (by omega)) ?_; clear E a; intro a E
        refine Run.nil ?_
        refine then_n ?_
        refine wp_seq ?_
        refine cond_T E rfl ?_
        refine wp_skip ?_
        refine then_n ?_
        refine wp_seq ?_
        refine wp_block ?_
        refine wp_seq ?_
        refine region_plain (n := 2) [(0, .p), (1, .p)] rfl rfl ?_
        refine Run.move rfl E rfl rfl rfl ?_; clear E a; intro a E
        refine Run.assign rfl E rfl rfl rfl ?_; clear E a; intro a E
        refine Run.nil ?_
        refine then_n ?_
        refine wp_seq ?_
        refine region_plain (n := 11) [(0, .p), (1, .p), (2, .e), (3, .p), (4, .p), (5, .p), (6, .p), (7, .e), (8, .l), (9, .p), (10, .p)] rfl rfl ?_
        refine Run.move rfl E rfl rfl rfl ?_; clear E a; intro a E
        refine Run.move rfl E rfl rfl rfl ?_; clear E a; intro a E
        refine Run.call (args := [.pointer (some ⟨g, 0, none⟩), .int .i64 (j : Int)]) rfl rfl E rfl rfl Try.func41 nm41 rfl rfl (tat_ok (k := j) (t := t) (St.holdsL (A := [.obj g 128 [.int .i64 (G : Int), .int .i64 (ev : Int), .int .i64 lim, .slice A ((tbytes G ev ts).length) c, .slice B ((tstarts G ev ts).length) d, .int .i64 ((lastS ts).kind), .int .i64 ((lastS ts).node), .int .i64 ((lastS ts).phase), .int .i64 ((lastS ts).pos), .int .i64 ((lastS ts).start), .int .i64 ((lastS ts).depth), .int .i64 ((lastS ts).org), .slice C ((lastS ts).caps.length) e], .row (.slice A ((tbytes G ev ts).length) c) 5 1 ((tbytes G ev ts).length) (u8s (tbytes G ev ts)), .row (.slice B ((tstarts G ev ts).length) d) 3 1 ((tstarts G ev ts).length) (ints (tstarts G ev ts)), .row (.slice C ((lastS ts).caps.length) e) 3 1 ((lastS ts).caps.length) (ints (lastS ts).caps)]) (R := [_, _]) (S.sel [0, 1, 2, 3, 4, 5] ([.obj g 128 [.int .i64 (G : Int), .int .i64 (ev : Int), .int .i64 lim, .slice A ((tbytes G ev ts).length) c, .slice B ((tstarts G ev ts).length) d, .int .i64 ((lastS ts).kind), .int .i64 ((lastS ts).node), .int .i64 ((lastS ts).phase), .int .i64 ((lastS ts).pos), .int .i64 ((lastS ts).start), .int .i64 ((lastS ts).depth), .int .i64 ((lastS ts).org), .slice C ((lastS ts).caps.length) e], .row (.slice A ((tbytes G ev ts).length) c) 5 1 ((tbytes G ev ts).length) (u8s (tbytes G ev ts)), .row (.slice B ((tstarts G ev ts).length) d) 3 1 ((tstarts G ev ts).length) (ints (tstarts G ev ts)), .row (.slice C ((lastS ts).caps.length) e) 3 1 ((lastS ts).caps.length) (ints (lastS ts).caps)] ++ [_, _]) rfl rfl)) hok hlim hl1 ht) ?_; rintro e_ w ⟨D7, e8, rfl, S_⟩; refine ⟨_, rfl, (fun _ => S_.belT), ?_⟩; clear E a; intro a E
        replace S : St _ _ _ [_, .obj _ _ [_, _, _, _, _, _, _, _, _, _, _, _, _], _, _, _, _, _] := St.call (A := []) (R := [_, _, _, _, _, _]) S S_; clear S_
        refine Run.move rfl E rfl rfl rfl ?_; clear E a; intro a E
        refine Run.extract rfl E rfl rfl rfl rfl ?_; clear E a; intro a E
        refine Run.extract rfl E rfl rfl rfl rfl ?_; clear E a; intro a E
        refine Run.extract rfl E rfl rfl rfl rfl ?_; clear E a; intro a E
        refine Run.alloc rfl rfl E S rfl rfl z34 rfl ?_; clear E a S; intro b9 w a E S B_; clear B_
        refine Run.store (news := [.int .i64 t.kind, .int .i64 t.node, .int .i64 t.phase, .int .i64 t.pos, .int .i64 t.start, .int .i64 t.depth, .int .i64 t.org, .slice D7 t.caps.length e8]) (cs' := [_, _, _, _, _, _, _, _]) (hp' := [_, _, _, _, _, _, _, _]) 0 rfl E S rfl rfl rfl rfl rfl sz34 rfl rfl rfl rfl ?_; clear S; intro w S
        refine Run.assign rfl E rfl rfl rfl ?_; clear E a; intro a E
        refine Run.assign rfl E rfl rfl rfl ?_; clear E a; intro a E
        refine Run.nil ?_
        refine then_n ?_
        refine wp_seq ?_
        refine region_drawS (n := 11) [(0, .p), (1, .p), (2, .p), (4, .p), (5, .p), (6, .p), (3, .t), (7, .t), (8, .e), (9, .p), (10, .p)] [0, 1, 3, 7, 7, 7, 55, 119, 255, 511, 1023] S mixed rfl rfl (by kernel_rfl) (fun _ _ _ _ _ h => h) ?_; clear S; intro w S B_; clear B_
        refine Run.move rfl E rfl rfl rfl ?_; clear E a; intro a E
        refine Run.nei rfl E rfl rfl rfl rfl (b := false) (by decide) ?_; clear E a; intro a E
        refine Run.move rfl E rfl rfl rfl ?_; clear E a; intro a E
        refine Run.move rfl E rfl rfl rfl ?_; clear E a; intro a E
        refine Run.move rfl E rfl rfl rfl ?_; clear E a; intro a E
        obtain ⟨y, hy, hys⟩ := own_get hown ht
        have hyl := (List.getElem?_eq_some_iff.1 hy).1
        have hyc : y.s.caps.length = t.caps.length := by rw [hys]
        obtain ⟨bO, rfl⟩ := S.rowAddr 6 rfl (by omega)
        refine Run.indexAddr rfl E rfl rfl rfl rfl Try.underlying50 sz34 (by omega) (ix_at (m' := j) (o := j * 8) (by omega) rfl) ?_; clear E a; intro a E
        refine Run.loadN (cs := [.int .i64 t.kind, .int .i64 t.node, .int .i64 t.phase, .int .i64 t.pos, .int .i64 t.start, .int .i64 t.depth, .int .i64 t.org, .slice D7 t.caps.length e8]) rfl rfl E S rfl rfl rfl ag34 rfl (fun _ s => objAll s 0 rfl) ?_; clear E a; intro a E
        refine Run.loadN (cs := [.int .i64 y.s.kind, .int .i64 y.s.node, .int .i64 y.s.phase, .int .i64 y.s.pos, .int .i64 y.s.start, .int .i64 y.s.depth, .int .i64 y.s.org, .slice y.A y.s.caps.length y.c]) rfl rfl E S rfl rfl rfl ag34 rfl (fun _ s_ => rowAt s_ 6 _ _ rfl (stams_get hy)) ?_; clear E a; intro a E
        refine Run.call (args := [.agg #[.int .i64 t.kind, .int .i64 t.node, .int .i64 t.phase, .int .i64 t.pos, .int .i64 t.start, .int .i64 t.depth, .int .i64 t.org, .slice D7 t.caps.length e8], .agg #[.int .i64 y.s.kind, .int .i64 y.s.node, .int .i64 y.s.phase, .int .i64 y.s.pos, .int .i64 y.s.start, .int .i64 y.s.depth, .int .i64 y.s.org, .slice y.A y.s.caps.length y.c]]) rfl rfl E rfl rfl Try.func42 nm42 rfl rfl (same_walk (s := t) (t := y.s) (S.rd 1 rfl) (S.rowsRd (q := y.irow) 7 rfl (List.mem_map.2 ⟨y, List.mem_of_getElem? hy, rfl⟩)) (by omega)) ?_; rintro e_ w ⟨rfl, B_⟩; refine ⟨_, rfl, fun _ => B_, ?_⟩; clear E a; replace S := S.bel B_; intro a E
        clear B_
        replace E := E.setb 94 rfl (decide_eq_true hys.symm)
        refine Run.not rfl E rfl rfl rfl rfl ?_; clear E a; intro a E
        refine Run.pickF rfl E rfl rfl rfl rfl ?_; clear E a; intro a E
        refine Run.nil ?_
        refine then_n ?_
        refine cond_F E rfl ?_
        refine wp_skip ?_
        refine blk_n ?_
        refine then_n ?_
        refine region_plain (n := 2) [(0, .p), (1, .p)] rfl rfl ?_
        refine Run.add rfl E rfl rfl rfl rfl (i64_ok (by omega)) ?_; clear E a; intro a E
        refine Run.move rfl E rfl rfl rfl ?_; clear E a; intro a E
        refine Run.nil ?_
        refine then_n ?_
        replace E := E.setv 76 rfl (show Value.int .i64 ((j : Int) + 1) = .int .i64 ((j + 1 : Nat) : Int) from rfl)
        have S : St _ _ _ [_, _, _, _, _, _, _, _] := S.sel [0, 1, 2, 3, 4, 5, 6, 7] _ rfl rfl
        have S := S.drop1.drop1
        exact ⟨_, (by omega), (j + 1), rfl, E.keeps [(7, _), (8, _), (75, _), (76, _)] ⟨rfl, rfl, rfl, rfl, trivial⟩, S, (by omega)⟩
      · skip
        refine Run.lss rfl E rfl rfl rfl rfl (decide_eq_false (by omega)) ?_; clear E a; intro a E
        refine Run.nil ?_
        refine then_n ?_
        refine wp_seq ?_
        refine cond_F E rfl ?_
        refine wp_exit ?_
        refine then_x ?_
        refine then_x ?_
        refine blk_x ?_
        refine then_n ?_
        refine wp_seq ?_
        refine region_plain (n := 1) [(0, .p)] rfl rfl ?_
        refine Run.assign rfl E rfl rfl rfl ?_; clear E a; intro a E
        refine Run.nil ?_
        refine then_n ?_
        refine wp_ret ?_
        exact ret1 E Try.results17 rfl ⟨rfl, S.belT⟩

theorem tapeOwn_walk (hL : Rd w0 L l.length 8 (stams l)) (hL2 : ∀ x ∈ l, x.ok w0) : Calls Try.prog 17 [.agg #[.int .i64 gr, .int .i64 ev0, .int .i64 lim], .slice L l.length cL, .int .i64 x].toArray w0 (fun r w' => r = .returned (.bool true) ∧ Bel w0 w') := by
  by_cases hn : (0 ≤ gr ∧ gr ≤ 99) ∧ (1 ≤ ev0 ∧ ev0 ≤ 1024) ∧ (0 ≤ lim ∧ lim ≤ 16777216)
  · obtain ⟨⟨h1, h2⟩, ⟨h3, h4⟩, h5, h6⟩ := hn
    obtain ⟨G, rfl⟩ : ∃ G : Nat, gr = (G : Int) := ⟨gr.toNat, by omega⟩
    obtain ⟨ev, rfl⟩ : ∃ ev : Nat, ev0 = (ev : Int) := ⟨ev0.toNat, by omega⟩
    by_cases hll : (100 : Int) < (l.length : Int)
    · exact town_long (by omega) (by omega) (by omega) h5 h6 hll
    · exact town_ok (by omega) (by omega) (by omega) h5 h6 hL hL2 (by omega) rfl
  · exact town_bad hn

end
end Go.Proofs.Ytlcglefbhlhcpaa.K
