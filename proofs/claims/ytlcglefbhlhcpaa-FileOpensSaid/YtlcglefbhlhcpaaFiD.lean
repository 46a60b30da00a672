/- FileOpens walked. -/
import Derived.Test.YtlcglefbhlhcpaaKg
import Derived.Test.YtlcglefbhlhcpaaFiB
import Derived.Test.YtlcglefbhlhcpaaTaC
namespace Go.Proofs.Ytlcglefbhlhcpaa.K
open Go.RowKit
set_option linter.unusedVariables false
set_option maxRecDepth 100000
set_option maxHeartbeats 400000

section
variable {w0 : World} {L A O : Option Addr} {c cL cO : Nat} {l own : List StaM} {G ev n : Nat} {gr ev0 at_ : Int} {ts : List Sta} {s t : Sta}

theorem fopens_out (hn : ¬ ((0 ≤ gr ∧ gr ≤ 99) ∧ (1 ≤ ev0 ∧ ev0 ≤ 1024) ∧ l.length ≤ 100)) : Calls Try.prog 5 [.int .i64 gr, .int .i64 ev0, .slice L l.length cL].toArray w0 (fun r w' => r = .returned (.bool true) ∧ Bel w0 w') := by
  have S := St.nil [] w0
  refine fn_start Try.func5 rfl 106 rfl rfl [(0, _), (1, _), (2, _)] ⟨rfl, rfl, rfl, trivial⟩ ?_; intro a E
  refine wp_seq ?_
  refine region_plain (n := 1) [(0, .p)] rfl rfl ?_
  refine Run.assign rfl E rfl rfl rfl ?_; clear E a; intro a E
  refine Run.nil ?_
  refine then_n ?_
  refine wp_seq ?_
  refine wp_seq ?_
  refine region_plain (n := 2) [(0, .e), (1, .p)] rfl rfl ?_
  refine Run.call (args := []) rfl rfl E rfl rfl Try.func22 nm22 rfl rfl (anchor20) ?_; rintro e_ w ⟨rfl, B_⟩; refine ⟨_, rfl, fun _ => B_, ?_⟩; clear E a; replace S := S.bel B_; intro a E
  clear B_
  refine Run.not rfl E rfl rfl rfl rfl ?_; clear E a; intro a E
  refine Run.nil ?_
  refine then_n ?_
  refine cond_F E rfl ?_
  refine wp_skip ?_
  refine then_n ?_
  refine wp_seq ?_
  refine wp_seq ?_
  refine region_plain (n := 19) [(0, .p), (1, .p), (2, .p), (3, .p), (4, .p), (5, .p), (6, .p), (7, .p), (8, .p), (9, .p), (10, .p), (11, .p), (12, .p), (13, .p), (14, .p), (15, .p), (16, .p), (17, .p), (18, .p)] rfl rfl ?_
  refine Run.move rfl E rfl rfl rfl ?_; clear E a; intro a E
  by_cases h1 : gr < 0
  · skip
    refine Run.lss rfl E rfl rfl rfl rfl (decide_eq_true (by omega)) ?_; clear E a; intro a E
    refine Run.move rfl E rfl rfl rfl ?_; clear E a; intro a E
    refine Run.off rfl E rfl rfl ?_; clear E a; intro a E
    refine Run.off rfl E rfl rfl ?_; clear E a; intro a E
    refine Run.pickT rfl E rfl rfl rfl rfl ?_; clear E a; intro a E
    refine Run.move rfl E rfl rfl rfl ?_; clear E a; intro a E
    refine Run.off rfl E rfl rfl ?_; clear E a; intro a E
    refine Run.off rfl E rfl rfl ?_; clear E a; intro a E
    refine Run.pickT rfl E rfl rfl rfl rfl ?_; clear E a; intro a E
    refine Run.move rfl E rfl rfl rfl ?_; clear E a; intro a E
    refine Run.off rfl E rfl rfl ?_; clear E a; intro a E
    refine Run.off rfl E rfl rfl ?_; clear E a; intro a E
    refine Run.pickT rfl E rfl rfl rfl rfl ?_; clear E a; intro a E
    refine Run.move rfl E rfl rfl rfl ?_; clear E a; intro a E
    refine Run.off rfl E rfl rfl ?_; clear E a; intro a E
    refine Run.off rfl E rfl rfl ?_; clear E a; intro a E
    refine Run.off rfl E rfl rfl ?_; clear E a; intro a E
    refine Run.pickT rfl E rfl rfl rfl rfl ?_; clear E a; intro a E
    refine Run.nil ?_
    refine then_n ?_
    refine cond_T E rfl ?_
    refine wp_seq ?_
    refine region_plain (n := 1) [(0, .p)] rfl rfl ?_
    refine Run.assign rfl E rfl rfl rfl ?_; clear E a; intro a E
    refine Run.nil ?_
    refine then_n ?_
    refine wp_ret ?_
    refine then_r ?_
    exact ret1 E Try.results5 rfl ⟨rfl, S.belT⟩
  · skip
    refine Run.lss rfl E rfl rfl rfl rfl (decide_eq_false (by omega)) ?_; clear E a; intro a E
    refine Run.move rfl E rfl rfl rfl ?_; clear E a; intro a E
    refine Run.move rfl E rfl rfl rfl ?_; clear E a; intro a E
    by_cases h2 : 99 < gr
    · skip
      refine Run.gtr rfl E rfl rfl rfl rfl (decide_eq_true (by omega)) ?_; clear E a; intro a E
      refine Run.pickF rfl E rfl rfl rfl rfl ?_; clear E a; intro a E
      refine Run.move rfl E rfl rfl rfl ?_; clear E a; intro a E
      refine Run.off rfl E rfl rfl ?_; clear E a; intro a E
      refine Run.off rfl E rfl rfl ?_; clear E a; intro a E
      refine Run.pickT rfl E rfl rfl rfl rfl ?_; clear E a; intro a E
      refine Run.move rfl E rfl rfl rfl ?_; clear E a; intro a E
      refine Run.off rfl E rfl rfl ?_; clear E a; intro a E
      refine Run.off rfl E rfl rfl ?_; clear E a; intro a E
      refine Run.pickT rfl E rfl rfl rfl rfl ?_; clear E a; intro a E
      refine Run.move rfl E rfl rfl rfl ?_; clear E a; intro a E
      refine Run.off rfl E rfl rfl ?_; clear E a; intro a E
      refine Run.off rfl E rfl rfl ?_; clear E a; intro a E
      refine Run.off rfl E rfl rfl ?_; clear E a; intro a E
      refine Run.pickT rfl E rfl rfl rfl rfl ?_; clear E a; intro a E
      refine Run.nil ?_
      refine then_n ?_
      refine cond_T E rfl ?_
      refine wp_seq ?_
      refine region_plain (n := 1) [(0, .p)] rfl rfl ?_
      refine Run.assign rfl E rfl rfl rfl ?_; clear E a; intro a E
      refine Run.nil ?_
      refine then_n ?_
      refine wp_ret ?_
      refine then_r ?_
      exact ret1 E Try.results5 rfl ⟨rfl, S.belT⟩
    · skip
      refine Run.gtr rfl E rfl rfl rfl rfl (decide_eq_false (by omega)) ?_; clear E a; intro a E
      refine Run.pickF rfl E rfl rfl rfl rfl ?_; clear E a; intro a E
      refine Run.move rfl E rfl rfl rfl ?_; clear E a; intro a E
      refine Run.move rfl E rfl rfl rfl ?_; clear E a; intro a E
      by_cases h3 : ev0 < 1
      · skip
        refine Run.lss rfl E rfl rfl rfl rfl (decide_eq_true (by omega)) ?_; clear E a; intro a E
        refine Run.pickF rfl E rfl rfl rfl rfl ?_; clear E a; intro a E
        refine Run.move rfl E rfl rfl rfl ?_; clear E a; intro a E
        refine Run.off rfl E rfl rfl ?_; clear E a; intro a E
        refine Run.off rfl E rfl rfl ?_; clear E a; intro a E
        refine Run.pickT rfl E rfl rfl rfl rfl ?_; clear E a; intro a E
        refine Run.move rfl E rfl rfl rfl ?_; clear E a; intro a E
        refine Run.off rfl E rfl rfl ?_; clear E a; intro a E
        refine Run.off rfl E rfl rfl ?_; clear E a; intro a E
        refine Run.off rfl E rfl rfl ?_; clear E a; intro a E
        refine Run.pickT rfl E rfl rfl rfl rfl ?_; clear E a; intro a E
        refine Run.nil ?_
        refine then_n ?_
        refine cond_T E rfl ?_
        refine wp_seq ?_
        refine region_plain (n := 1) [(0, .p)] rfl rfl ?_
        refine Run.assign rfl E rfl rfl rfl ?_; clear E a; intro a E
        refine Run.nil ?_
        refine then_n ?_
        refine wp_ret ?_
        refine then_r ?_
        exact ret1 E Try.results5 rfl ⟨rfl, S.belT⟩
      · skip
        refine Run.lss rfl E rfl rfl rfl rfl (decide_eq_false (by omega)) ?_; clear E a; intro a E
        refine Run.pickF rfl E rfl rfl rfl rfl ?_; clear E a; intro a E
        refine Run.move rfl E rfl rfl rfl ?_; clear E a; intro a E
        refine Run.move rfl E rfl rfl rfl ?_; clear E a; intro a E
        by_cases h4 : 1024 < ev0
        · skip
          refine Run.gtr rfl E rfl rfl rfl rfl (decide_eq_true (by omega)) ?_; clear E a; intro a E
          refine Run.pickF rfl E rfl rfl rfl rfl ?_; clear E a; intro a E
          refine Run.move rfl E rfl rfl rfl ?_; clear E a; intro a E
          refine Run.off rfl E rfl rfl ?_; clear E a; intro a E
          refine Run.off rfl E rfl rfl ?_; clear E a; intro a E
          refine Run.off rfl E rfl rfl ?_; clear E a; intro a E
          refine Run.pickT rfl E rfl rfl rfl rfl ?_; clear E a; intro a E
          refine Run.nil ?_
          refine then_n ?_
          refine cond_T E rfl ?_
          refine wp_seq ?_
          refine region_plain (n := 1) [(0, .p)] rfl rfl ?_
          refine Run.assign rfl E rfl rfl rfl ?_; clear E a; intro a E
          refine Run.nil ?_
          refine then_n ?_
          refine wp_ret ?_
          refine then_r ?_
          exact ret1 E Try.results5 rfl ⟨rfl, S.belT⟩
        · skip
          refine Run.gtr rfl E rfl rfl rfl rfl (decide_eq_false (by omega)) ?_; clear E a; intro a E
          refine Run.pickF rfl E rfl rfl rfl rfl ?_; clear E a; intro a E
          refine Run.move rfl E rfl rfl rfl ?_; clear E a; intro a E
          refine Run.move rfl E rfl rfl rfl ?_; clear E a; intro a E
          refine Run.len rfl E rfl rfl rfl Try.underlying50 ?_; clear E a; intro a E
          refine Run.gtr rfl E rfl rfl rfl rfl (decide_eq_true (by omega)) ?_; clear E a; intro a E
          refine Run.pickF rfl E rfl rfl rfl rfl ?_; clear E a; intro a E
          refine Run.nil ?_
          refine then_n ?_
          refine cond_T E rfl ?_
          refine wp_seq ?_
          refine region_plain (n := 1) [(0, .p)] rfl rfl ?_
          refine Run.assign rfl E rfl rfl rfl ?_; clear E a; intro a E
          refine Run.nil ?_
          refine then_n ?_
          refine wp_ret ?_
          refine then_r ?_
          exact ret1 E Try.results5 rfl ⟨rfl, S.belT⟩

set_option maxHeartbeats 4000000 in
theorem fopens_ok (hG : G ≤ 99) (he0 : 1 ≤ ev) (he1 : ev ≤ 1024) (hL : Rd w0 L l.length 8 (stams l)) (hL2 : ∀ x ∈ l, x.ok w0) (hll0 : l.length ≤ 100) (hts : ts = takes G ev 16777216 (l.map StaM.s)) : Calls Try.prog 5 [.int .i64 (G : Int), .int .i64 (ev : Int), .slice L l.length cL].toArray w0 (fun r w' => r = .returned (.bool true) ∧ Bel w0 w') := by
  have S := St.nil [] w0
  have hll : l.length ≤ 200 := by omega
  have hok : TapeOK G ev ts := by rw [hts]; exact takes_ok _ hG he0 he1 _
  have hlim : ((tbytes G ev ts).length : Int) ≤ 16777216 := by rw [hts]; exact takes_lim (by decide) _
  have htl : ts.length ≤ l.length := by have := takes_len G ev 16777216 (l.map StaM.s); rw [← hts] at this; simpa using this
  have hpl := packB_len hok hlim
  refine fn_start Try.func5 rfl 106 rfl rfl [(0, _), (1, _), (2, _)] ⟨rfl, rfl, rfl, trivial⟩ ?_; intro a E
  refine wp_seq ?_
  refine region_plain (n := 1) [(0, .p)] rfl rfl ?_
  refine Run.assign rfl E rfl rfl rfl ?_; clear E a; intro a E
  refine Run.nil ?_
  refine then_n ?_
  refine wp_seq ?_
  refine wp_seq ?_
  refine region_plain (n := 2) [(0, .e), (1, .p)] rfl rfl ?_
  refine Run.call (args := []) rfl rfl E rfl rfl Try.func22 nm22 rfl rfl (anchor20) ?_; rintro e_ w ⟨rfl, B_⟩; refine ⟨_, rfl, fun _ => B_, ?_⟩; clear E a; replace S := S.bel B_; intro a E
  clear B_
  refine Run.not rfl E rfl rfl rfl rfl ?_; clear E a; intro a E
  refine Run.nil ?_
  refine then_n ?_
  refine cond_F E rfl ?_
  refine wp_skip ?_
  refine then_n ?_
  refine wp_seq ?_
  refine wp_seq ?_
  refine region_plain (n := 19) [(0, .p), (1, .p), (2, .p), (3, .p), (4, .p), (5, .p), (6, .p), (7, .p), (8, .p), (9, .p), (10, .p), (11, .p), (12, .p), (13, .p), (14, .p), (15, .p), (16, .p), (17, .p), (18, .p)] rfl rfl ?_
  refine Run.move rfl E rfl rfl rfl ?_; clear E a; intro a E
  refine Run.lss rfl E rfl rfl rfl rfl (decide_eq_false (by omega)) ?_; clear E a; intro a E
  refine Run.move rfl E rfl rfl rfl ?_; clear E a; intro a E
  refine Run.move rfl E rfl rfl rfl ?_; clear E a; intro a E
  refine Run.gtr rfl E rfl rfl rfl rfl (decide_eq_false (by omega)) ?_; clear E a; intro a E
  refine Run.pickF rfl E rfl rfl rfl rfl ?_; clear E a; intro a E
  refine Run.move rfl E rfl rfl rfl ?_; clear E a; intro a E
  refine Run.move rfl E rfl rfl rfl ?_; clear E a; intro a E
  refine Run.lss rfl E rfl rfl rfl rfl (decide_eq_false (by omega)) ?_; clear E a; intro a E
  refine Run.pickF rfl E rfl rfl rfl rfl ?_; clear E a; intro a E
  refine Run.move rfl E rfl rfl rfl ?_; clear E a; intro a E
  refine Run.move rfl E rfl rfl rfl ?_; clear E a; intro a E
  refine Run.gtr rfl E rfl rfl rfl rfl (decide_eq_false (by omega)) ?_; clear E a; intro a E
  refine Run.pickF rfl E rfl rfl rfl rfl ?_; clear E a; intro a E
  refine Run.move rfl E rfl rfl rfl ?_; clear E a; intro a E
  refine Run.move rfl E rfl rfl rfl ?_; clear E a; intro a E
  refine Run.len rfl E rfl rfl rfl Try.underlying50 ?_; clear E a; intro a E
  refine Run.gtr rfl E rfl rfl rfl rfl (decide_eq_false (by omega)) ?_; clear E a; intro a E
  refine Run.pickF rfl E rfl rfl rfl rfl ?_; clear E a; intro a E
  refine Run.nil ?_
  refine then_n ?_
  refine cond_F E rfl ?_
  refine wp_skip ?_
  refine then_n ?_
  refine wp_seq ?_
  refine region_plain (n := 9) [(0, .p), (1, .p), (2, .p), (3, .e), (4, .p), (5, .p), (6, .p), (7, .p), (8, .p)] rfl rfl ?_
  refine Run.move rfl E rfl rfl rfl ?_; clear E a; intro a E
  refine Run.move rfl E rfl rfl rfl ?_; clear E a; intro a E
  refine Run.move rfl E rfl rfl rfl ?_; clear E a; intro a E
  refine Run.call (args := [.int .i64 (G : Int), .int .i64 (ev : Int), .slice L l.length cL]) rfl rfl E rfl rfl Try.func37 nm37 rfl rfl (taped20_walk hG he0 he1 (hL.bel S.belT) (fun x hx => ⟨(hL2 x hx).1.bel S.belT, (hL2 x hx).2⟩) hll hts) ?_; rintro e_ w ⟨g, A, c, B, d, C, e, O, cO, own, hown, rfl, S_⟩; refine ⟨_, rfl, (fun _ => S_.belT), ?_⟩; clear E a; intro a E
  replace S : St _ _ _ [.obj _ _ [_, _, _, _, _, _, _, _, _, _, _, _, _], _, _, _, _, _] := St.call (A := []) (R := []) S S_; clear S_
  have hol : own.length = ts.length := by rw [← hown, List.length_map]
  refine Run.move rfl E rfl rfl rfl ?_; clear E a; intro a E
  refine Run.extract rfl E rfl rfl rfl rfl ?_; clear E a; intro a E
  refine Run.extract rfl E rfl rfl rfl rfl ?_; clear E a; intro a E
  refine Run.assign rfl E rfl rfl rfl ?_; clear E a; intro a E
  refine Run.assign rfl E rfl rfl rfl ?_; clear E a; intro a E
  refine Run.nil ?_
  refine then_n ?_
  refine wp_seq ?_
  refine wp_seq ?_
  refine region_plain (n := 2) [(0, .p), (1, .p)] rfl rfl ?_
  refine Run.move rfl E rfl rfl rfl ?_; clear E a; intro a E
  refine Run.bin (v := .bool false) rfl E rfl rfl rfl rfl (fun _ => by kernel_rfl) ?_; clear E a; intro a E
  refine Run.nil ?_
  refine then_n ?_
  refine cond_F E rfl ?_
  refine wp_skip ?_
  refine then_n ?_
  refine wp_seq ?_
  refine region_plain (n := 8) [(0, .p), (1, .e), (2, .e), (3, .p), (4, .p), (5, .p), (6, .p), (7, .p)] rfl rfl ?_
  refine Run.move rfl E rfl rfl rfl ?_; clear E a; intro a E
  refine Run.call (args := [.pointer (some ⟨g, 0, none⟩)]) rfl rfl E rfl rfl Try.func24 nm24 rfl rfl (pack_walk (St.holdsL (A := [.obj g 128 [.int .i64 (G : Int), .int .i64 (ev : Int), .int .i64 16777216, .slice A ((tbytes G ev ts).length) c, .slice B ((tstarts G ev ts).length) d, .int .i64 ((lastS ts).kind), .int .i64 ((lastS ts).node), .int .i64 ((lastS ts).phase), .int .i64 ((lastS ts).pos), .int .i64 ((lastS ts).start), .int .i64 ((lastS ts).depth), .int .i64 ((lastS ts).org), .slice C ((lastS ts).caps.length) e], .row (.slice A ((tbytes G ev ts).length) c) 5 1 ((tbytes G ev ts).length) (u8s (tbytes G ev ts)), .row (.slice B ((tstarts G ev ts).length) d) 3 1 ((tstarts G ev ts).length) (ints (tstarts G ev ts)), .row (.slice C ((lastS ts).caps.length) e) 3 1 ((lastS ts).caps.length) (ints (lastS ts).caps)]) (R := [_, _]) (S.sel [0, 1, 2, 3, 4, 5] ([.obj g 128 [.int .i64 (G : Int), .int .i64 (ev : Int), .int .i64 16777216, .slice A ((tbytes G ev ts).length) c, .slice B ((tstarts G ev ts).length) d, .int .i64 ((lastS ts).kind), .int .i64 ((lastS ts).node), .int .i64 ((lastS ts).phase), .int .i64 ((lastS ts).pos), .int .i64 ((lastS ts).start), .int .i64 ((lastS ts).depth), .int .i64 ((lastS ts).org), .slice C ((lastS ts).caps.length) e], .row (.slice A ((tbytes G ev ts).length) c) 5 1 ((tbytes G ev ts).length) (u8s (tbytes G ev ts)), .row (.slice B ((tstarts G ev ts).length) d) 3 1 ((tstarts G ev ts).length) (ints (tstarts G ev ts)), .row (.slice C ((lastS ts).caps.length) e) 3 1 ((lastS ts).caps.length) (ints (lastS ts).caps)] ++ [_, _]) rfl rfl)) hok hlim) ?_; rintro e_ w ⟨X1, e2, rfl, S_⟩; refine ⟨_, rfl, (fun _ => S_.belT), ?_⟩; clear E a; intro a E
  replace S : St _ _ _ [_, .obj _ _ [_, _, _, _, _, _, _, _, _, _, _, _, _], _, _, _, _, _] := St.call (A := []) (R := [_, _, _, _, _, _]) S S_; clear S_
  have hcp := S.rowCap 0 rfl
  refine Run.call (args := [.slice X1 ((packB G ev ts).length) e2]) rfl rfl E rfl rfl Try.func23 nm23 rfl rfl (open_some (b := packB G ev ts) (S.rd 0 rfl) (packB_byte _ _ _) (by omega) hcp (opnF_pack hok hlim)) ?_; rintro e_ w ⟨gy3, Ay4, cy5, By6, dy7, Cy8, ey9, rfl, S_⟩; refine ⟨_, rfl, (fun _ => S_.belT), ?_⟩; clear E a; intro a E
  replace S : St _ _ _ [.obj _ _ [_, _, _, _, _, _, _, _, _, _, _, _, _], _, _, _, _, .obj _ _ [_, _, _, _, _, _, _, _, _, _, _, _, _], _, _, _, _, _] := St.call (A := []) (R := [_, _, _, _, _, _, _]) S S_; clear S_
  refine Run.move rfl E rfl rfl rfl ?_; clear E a; intro a E
  refine Run.extract rfl E rfl rfl rfl rfl ?_; clear E a; intro a E
  refine Run.extract rfl E rfl rfl rfl rfl ?_; clear E a; intro a E
  refine Run.assign rfl E rfl rfl rfl ?_; clear E a; intro a E
  refine Run.assign rfl E rfl rfl rfl ?_; clear E a; intro a E
  refine Run.nil ?_
  refine then_n ?_
  refine wp_seq ?_
  refine wp_seq ?_
  refine region_plain (n := 31) [(0, .p), (1, .p), (2, .p), (3, .p), (4, .p), (5, .p), (6, .p), (7, .p), (8, .e), (9, .p), (10, .p), (11, .p), (12, .p), (13, .p), (14, .p), (15, .e), (16, .p), (17, .p), (18, .p), (19, .p), (20, .p), (21, .e), (22, .p), (23, .p), (24, .p), (25, .p), (26, .p), (27, .p), (28, .e), (29, .p), (30, .p)] rfl rfl ?_
  refine Run.move rfl E rfl rfl rfl ?_; clear E a; intro a E
  refine Run.nei rfl E rfl rfl rfl rfl (b := false) (by decide) ?_; clear E a; intro a E
  refine Run.move rfl E rfl rfl rfl ?_; clear E a; intro a E
  refine Run.move rfl E rfl rfl rfl ?_; clear E a; intro a E
  refine Run.bin (v := .bool false) rfl E rfl rfl rfl rfl (fun _ => by kernel_rfl) ?_; clear E a; intro a E
  refine Run.pickF rfl E rfl rfl rfl rfl ?_; clear E a; intro a E
  refine Run.move rfl E rfl rfl rfl ?_; clear E a; intro a E
  refine Run.move rfl E rfl rfl rfl ?_; clear E a; intro a E
  refine Run.call (args := [.pointer (some ⟨gy3, 0, none⟩)]) rfl rfl E rfl rfl Try.func38 nm38 rfl rfl (tape_len (St.holdsL (A := [.obj gy3 128 [.int .i64 (G : Int), .int .i64 (ev : Int), .int .i64 16777216, .slice Ay4 ((tbytes G ev ts).length) cy5, .slice By6 ((tstarts G ev ts).length) dy7, .int .i64 ((lastS ts).kind), .int .i64 ((lastS ts).node), .int .i64 ((lastS ts).phase), .int .i64 ((lastS ts).pos), .int .i64 ((lastS ts).start), .int .i64 ((lastS ts).depth), .int .i64 ((lastS ts).org), .slice Cy8 ((lastS ts).caps.length) ey9], .row (.slice Ay4 ((tbytes G ev ts).length) cy5) 5 1 ((tbytes G ev ts).length) (u8s (tbytes G ev ts)), .row (.slice By6 ((tstarts G ev ts).length) dy7) 3 1 ((tstarts G ev ts).length) (ints (tstarts G ev ts)), .row (.slice Cy8 ((lastS ts).caps.length) ey9) 3 1 ((lastS ts).caps.length) (ints (lastS ts).caps)]) (R := [_, _, _, _, _, _, _]) (S.sel [0, 1, 2, 3, 4, 5, 6, 7, 8, 9, 10] ([.obj gy3 128 [.int .i64 (G : Int), .int .i64 (ev : Int), .int .i64 16777216, .slice Ay4 ((tbytes G ev ts).length) cy5, .slice By6 ((tstarts G ev ts).length) dy7, .int .i64 ((lastS ts).kind), .int .i64 ((lastS ts).node), .int .i64 ((lastS ts).phase), .int .i64 ((lastS ts).pos), .int .i64 ((lastS ts).start), .int .i64 ((lastS ts).depth), .int .i64 ((lastS ts).org), .slice Cy8 ((lastS ts).caps.length) ey9], .row (.slice Ay4 ((tbytes G ev ts).length) cy5) 5 1 ((tbytes G ev ts).length) (u8s (tbytes G ev ts)), .row (.slice By6 ((tstarts G ev ts).length) dy7) 3 1 ((tstarts G ev ts).length) (ints (tstarts G ev ts)), .row (.slice Cy8 ((lastS ts).caps.length) ey9) 3 1 ((lastS ts).caps.length) (ints (lastS ts).caps)] ++ [_, _, _, _, _, _, _]) rfl rfl))) ?_; rintro e_ w ⟨rfl, B_⟩; refine ⟨_, rfl, fun _ => B_, ?_⟩; clear E a; replace S := S.bel B_; intro a E
  clear B_
  refine Run.move rfl E rfl rfl rfl ?_; clear E a; intro a E
  refine Run.len rfl E rfl rfl rfl Try.underlying50 ?_; clear E a; intro a E
  refine Run.nei rfl E rfl rfl rfl rfl (decide_eq_false (by rw [tstarts_len]; omega)) ?_; clear E a; intro a E
  refine Run.pickF rfl E rfl rfl rfl rfl ?_; clear E a; intro a E
  refine Run.move rfl E rfl rfl rfl ?_; clear E a; intro a E
  refine Run.move rfl E rfl rfl rfl ?_; clear E a; intro a E
  refine Run.call (args := [.pointer (some ⟨gy3, 0, none⟩)]) rfl rfl E rfl rfl Try.func27 nm27 rfl rfl (tape_groups (St.holdsL (A := [.obj gy3 128 [.int .i64 (G : Int), .int .i64 (ev : Int), .int .i64 16777216, .slice Ay4 ((tbytes G ev ts).length) cy5, .slice By6 ((tstarts G ev ts).length) dy7, .int .i64 ((lastS ts).kind), .int .i64 ((lastS ts).node), .int .i64 ((lastS ts).phase), .int .i64 ((lastS ts).pos), .int .i64 ((lastS ts).start), .int .i64 ((lastS ts).depth), .int .i64 ((lastS ts).org), .slice Cy8 ((lastS ts).caps.length) ey9], .row (.slice Ay4 ((tbytes G ev ts).length) cy5) 5 1 ((tbytes G ev ts).length) (u8s (tbytes G ev ts)), .row (.slice By6 ((tstarts G ev ts).length) dy7) 3 1 ((tstarts G ev ts).length) (ints (tstarts G ev ts)), .row (.slice Cy8 ((lastS ts).caps.length) ey9) 3 1 ((lastS ts).caps.length) (ints (lastS ts).caps)]) (R := [_, _, _, _, _, _, _]) (S.sel [0, 1, 2, 3, 4, 5, 6, 7, 8, 9, 10] ([.obj gy3 128 [.int .i64 (G : Int), .int .i64 (ev : Int), .int .i64 16777216, .slice Ay4 ((tbytes G ev ts).length) cy5, .slice By6 ((tstarts G ev ts).length) dy7, .int .i64 ((lastS ts).kind), .int .i64 ((lastS ts).node), .int .i64 ((lastS ts).phase), .int .i64 ((lastS ts).pos), .int .i64 ((lastS ts).start), .int .i64 ((lastS ts).depth), .int .i64 ((lastS ts).org), .slice Cy8 ((lastS ts).caps.length) ey9], .row (.slice Ay4 ((tbytes G ev ts).length) cy5) 5 1 ((tbytes G ev ts).length) (u8s (tbytes G ev ts)), .row (.slice By6 ((tstarts G ev ts).length) dy7) 3 1 ((tstarts G ev ts).length) (ints (tstarts G ev ts)), .row (.slice Cy8 ((lastS ts).caps.length) ey9) 3 1 ((lastS ts).caps.length) (ints (lastS ts).caps)] ++ [_, _, _, _, _, _, _]) rfl rfl))) ?_; rintro e_ w ⟨rfl, B_⟩; refine ⟨_, rfl, fun _ => B_, ?_⟩; clear E a; replace S := S.bel B_; intro a E
  clear B_
  refine Run.move rfl E rfl rfl rfl ?_; clear E a; intro a E
  refine Run.nei rfl E rfl rfl rfl rfl (decide_eq_false (fun h => h rfl)) ?_; clear E a; intro a E
  refine Run.pickF rfl E rfl rfl rfl rfl ?_; clear E a; intro a E
  refine Run.move rfl E rfl rfl rfl ?_; clear E a; intro a E
  refine Run.move rfl E rfl rfl rfl ?_; clear E a; intro a E
  refine Run.call (args := [.pointer (some ⟨gy3, 0, none⟩)]) rfl rfl E rfl rfl Try.func39 nm39 rfl rfl (tape_every (St.holdsL (A := [.obj gy3 128 [.int .i64 (G : Int), .int .i64 (ev : Int), .int .i64 16777216, .slice Ay4 ((tbytes G ev ts).length) cy5, .slice By6 ((tstarts G ev ts).length) dy7, .int .i64 ((lastS ts).kind), .int .i64 ((lastS ts).node), .int .i64 ((lastS ts).phase), .int .i64 ((lastS ts).pos), .int .i64 ((lastS ts).start), .int .i64 ((lastS ts).depth), .int .i64 ((lastS ts).org), .slice Cy8 ((lastS ts).caps.length) ey9], .row (.slice Ay4 ((tbytes G ev ts).length) cy5) 5 1 ((tbytes G ev ts).length) (u8s (tbytes G ev ts)), .row (.slice By6 ((tstarts G ev ts).length) dy7) 3 1 ((tstarts G ev ts).length) (ints (tstarts G ev ts)), .row (.slice Cy8 ((lastS ts).caps.length) ey9) 3 1 ((lastS ts).caps.length) (ints (lastS ts).caps)]) (R := [_, _, _, _, _, _, _]) (S.sel [0, 1, 2, 3, 4, 5, 6, 7, 8, 9, 10] ([.obj gy3 128 [.int .i64 (G : Int), .int .i64 (ev : Int), .int .i64 16777216, .slice Ay4 ((tbytes G ev ts).length) cy5, .slice By6 ((tstarts G ev ts).length) dy7, .int .i64 ((lastS ts).kind), .int .i64 ((lastS ts).node), .int .i64 ((lastS ts).phase), .int .i64 ((lastS ts).pos), .int .i64 ((lastS ts).start), .int .i64 ((lastS ts).depth), .int .i64 ((lastS ts).org), .slice Cy8 ((lastS ts).caps.length) ey9], .row (.slice Ay4 ((tbytes G ev ts).length) cy5) 5 1 ((tbytes G ev ts).length) (u8s (tbytes G ev ts)), .row (.slice By6 ((tstarts G ev ts).length) dy7) 3 1 ((tstarts G ev ts).length) (ints (tstarts G ev ts)), .row (.slice Cy8 ((lastS ts).caps.length) ey9) 3 1 ((lastS ts).caps.length) (ints (lastS ts).caps)] ++ [_, _, _, _, _, _, _]) rfl rfl))) ?_; rintro e_ w ⟨rfl, B_⟩; refine ⟨_, rfl, fun _ => B_, ?_⟩; clear E a; replace S := S.bel B_; intro a E
  clear B_
  refine Run.move rfl E rfl rfl rfl ?_; clear E a; intro a E
  refine Run.nei rfl E rfl rfl rfl rfl (decide_eq_false (fun h => h rfl)) ?_; clear E a; intro a E
  refine Run.pickF rfl E rfl rfl rfl rfl ?_; clear E a; intro a E
  refine Run.move rfl E rfl rfl rfl ?_; clear E a; intro a E
  refine Run.move rfl E rfl rfl rfl ?_; clear E a; intro a E
  refine Run.move rfl E rfl rfl rfl ?_; clear E a; intro a E
  refine Run.call (args := [.pointer (some ⟨g, 0, none⟩), .pointer (some ⟨gy3, 0, none⟩)]) rfl rfl E rfl rfl Try.func40 nm40 rfl rfl (fsame_walk (St.holdsL (A := [.obj g 128 [.int .i64 (G : Int), .int .i64 (ev : Int), .int .i64 16777216, .slice A ((tbytes G ev ts).length) c, .slice B ((tstarts G ev ts).length) d, .int .i64 ((lastS ts).kind), .int .i64 ((lastS ts).node), .int .i64 ((lastS ts).phase), .int .i64 ((lastS ts).pos), .int .i64 ((lastS ts).start), .int .i64 ((lastS ts).depth), .int .i64 ((lastS ts).org), .slice C ((lastS ts).caps.length) e], .row (.slice A ((tbytes G ev ts).length) c) 5 1 ((tbytes G ev ts).length) (u8s (tbytes G ev ts)), .row (.slice B ((tstarts G ev ts).length) d) 3 1 ((tstarts G ev ts).length) (ints (tstarts G ev ts)), .row (.slice C ((lastS ts).caps.length) e) 3 1 ((lastS ts).caps.length) (ints (lastS ts).caps)]) (R := [_, _, _, _, _, _, _]) (S.sel [5, 6, 7, 8, 0, 1, 2, 3, 4, 9, 10] ([.obj g 128 [.int .i64 (G : Int), .int .i64 (ev : Int), .int .i64 16777216, .slice A ((tbytes G ev ts).length) c, .slice B ((tstarts G ev ts).length) d, .int .i64 ((lastS ts).kind), .int .i64 ((lastS ts).node), .int .i64 ((lastS ts).phase), .int .i64 ((lastS ts).pos), .int .i64 ((lastS ts).start), .int .i64 ((lastS ts).depth), .int .i64 ((lastS ts).org), .slice C ((lastS ts).caps.length) e], .row (.slice A ((tbytes G ev ts).length) c) 5 1 ((tbytes G ev ts).length) (u8s (tbytes G ev ts)), .row (.slice B ((tstarts G ev ts).length) d) 3 1 ((tstarts G ev ts).length) (ints (tstarts G ev ts)), .row (.slice C ((lastS ts).caps.length) e) 3 1 ((lastS ts).caps.length) (ints (lastS ts).caps)] ++ [_, _, _, _, _, _, _]) rfl rfl)) hok hlim (St.holdsL (A := [.obj gy3 128 [.int .i64 (G : Int), .int .i64 (ev : Int), .int .i64 16777216, .slice Ay4 ((tbytes G ev ts).length) cy5, .slice By6 ((tstarts G ev ts).length) dy7, .int .i64 ((lastS ts).kind), .int .i64 ((lastS ts).node), .int .i64 ((lastS ts).phase), .int .i64 ((lastS ts).pos), .int .i64 ((lastS ts).start), .int .i64 ((lastS ts).depth), .int .i64 ((lastS ts).org), .slice Cy8 ((lastS ts).caps.length) ey9], .row (.slice Ay4 ((tbytes G ev ts).length) cy5) 5 1 ((tbytes G ev ts).length) (u8s (tbytes G ev ts)), .row (.slice By6 ((tstarts G ev ts).length) dy7) 3 1 ((tstarts G ev ts).length) (ints (tstarts G ev ts)), .row (.slice Cy8 ((lastS ts).caps.length) ey9) 3 1 ((lastS ts).caps.length) (ints (lastS ts).caps)]) (R := [_, _, _, _, _, _, _]) (S.sel [0, 1, 2, 3, 4, 5, 6, 7, 8, 9, 10] ([.obj gy3 128 [.int .i64 (G : Int), .int .i64 (ev : Int), .int .i64 16777216, .slice Ay4 ((tbytes G ev ts).length) cy5, .slice By6 ((tstarts G ev ts).length) dy7, .int .i64 ((lastS ts).kind), .int .i64 ((lastS ts).node), .int .i64 ((lastS ts).phase), .int .i64 ((lastS ts).pos), .int .i64 ((lastS ts).start), .int .i64 ((lastS ts).depth), .int .i64 ((lastS ts).org), .slice Cy8 ((lastS ts).caps.length) ey9], .row (.slice Ay4 ((tbytes G ev ts).length) cy5) 5 1 ((tbytes G ev ts).length) (u8s (tbytes G ev ts)), .row (.slice By6 ((tstarts G ev ts).length) dy7) 3 1 ((tstarts G ev ts).length) (ints (tstarts G ev ts)), .row (.slice Cy8 ((lastS ts).caps.length) ey9) 3 1 ((lastS ts).caps.length) (ints (lastS ts).caps)] ++ [_, _, _, _, _, _, _]) rfl rfl)) hok hlim) ?_; rintro e_ w ⟨rfl, B_⟩; refine ⟨_, rfl, fun _ => B_, ?_⟩; clear E a; replace S := S.bel B_; intro a E
  clear B_
  replace E := E.setb 79 rfl (decide_eq_true rfl)
  refine Run.not rfl E rfl rfl rfl rfl ?_; clear E a; intro a E
  refine Run.pickF rfl E rfl rfl rfl rfl ?_; clear E a; intro a E
  refine Run.nil ?_
  refine then_n ?_
  refine cond_F E rfl ?_
  refine wp_skip ?_
  refine then_n ?_
  refine wp_seq ?_
  refine wp_seq ?_
  refine region_plain (n := 3) [(0, .p), (1, .p), (2, .p)] rfl rfl ?_
  refine Run.move rfl E rfl rfl rfl ?_; clear E a; intro a E
  refine Run.len rfl E rfl rfl rfl Try.underlying50 ?_; clear E a; intro a E
  refine Run.move rfl E rfl rfl rfl ?_; clear E a; intro a E
  refine Run.nil ?_
  refine then_n ?_
  refine wp_block ?_
  have S : St _ _ _ [_, _, _, _, _, _, _, _, _, _, _] := S.sel [4, 5, 6, 7, 8, 0, 1, 2, 3, 9, 10] _ rfl rfl
  have S := S.drop1.drop1.drop1.drop1.drop1
  refine wp_loop_ghost (fun n_ a w => ∃ j : Nat, own.length - j = n_ ∧ Env 106 [(8, .slice O own.length cO), (9, .pointer (some ⟨gy3, 0, none⟩)), (83, .int .i64 (own.length : Int)), (84, .int .i64 (j : Int))] a ∧ St _ _ w [.obj gy3 128 [.int .i64 (G : Int), .int .i64 (ev : Int), .int .i64 16777216, .slice Ay4 ((tbytes G ev ts).length) cy5, .slice By6 ((tstarts G ev ts).length) dy7, .int .i64 ((lastS ts).kind), .int .i64 ((lastS ts).node), .int .i64 ((lastS ts).phase), .int .i64 ((lastS ts).pos), .int .i64 ((lastS ts).start), .int .i64 ((lastS ts).depth), .int .i64 ((lastS ts).org), .slice Cy8 ((lastS ts).caps.length) ey9], .row (.slice Ay4 ((tbytes G ev ts).length) cy5) 5 1 ((tbytes G ev ts).length) (u8s (tbytes G ev ts)), .row (.slice By6 ((tstarts G ev ts).length) dy7) 3 1 ((tstarts G ev ts).length) (ints (tstarts G ev ts)), .row (.slice Cy8 ((lastS ts).caps.length) ey9) 3 1 ((lastS ts).caps.length) (ints (lastS ts).caps), .row (.slice O own.length cO) 34 8 own.length (stams own), .rows (own.map StaM.irow)] ∧ (j ≤ own.length)) _ ⟨0, rfl, E.keeps [(8, _), (9, _), (83, _), (84, _)] ⟨rfl, rfl, rfl, rfl, trivial⟩, S, Nat.zero_le _⟩ ?_
  clear E a S
  rintro n_ a w ⟨j, rfl, E, S, hj⟩
  refine wp_seq ?_
  refine region_plain (n := 1) [(0, .p)] rfl rfl ?_
  by_cases hlt : j < own.length
  · skip
    obtain ⟨t, ht⟩ : ∃ t, ts[j]? = some t := ⟨_, List.getElem?_eq_getElem (by omega)⟩
    have htc := right_capl (hok.right t (List.mem_of_getElem? ht))
    refine Run.lss rfl E rfl rfl rfl rfl (decide_eq_true (by omega)) ?_; clear E a; intro a E
    refine Run.nil ?_
    refine then_n ?_
    refine wp_seq ?_
    refine cond_T E rfl ?_
    refine wp_skip ?_
    refine then_n ?_
    refine wp_seq ?_
    refine wp_block ?_
    refine wp_seq ?_
    refine region_plain (n := 2) [(0, .p), (1, .p)] rfl rfl ?_
    refine Run.move rfl E rfl rfl rfl ?_; clear E a; intro a E
    refine Run.assign rfl E rfl rfl rfl ?_; clear E a; intro a E
    refine Run.nil ?_
    refine then_n ?_
    refine wp_seq ?_
    refine region_plain (n := 11) [(0, .p), (1, .p), (2, .e), (3, .p), (4, .p), (5, .p), (6, .p), (7, .e), (8, .l), (9, .p), (10, .p)] rfl rfl ?_
    refine Run.move rfl E rfl rfl rfl ?_; clear E a; intro a E
    refine Run.move rfl E rfl rfl rfl ?_; clear E a; intro a E
    refine Run.call (args := [.pointer (some ⟨gy3, 0, none⟩), .int .i64 (j : Int)]) rfl rfl E rfl rfl Try.func41 nm41 rfl rfl (tat_ok (k := j) (t := t) (St.holdsL (A := [.obj gy3 128 [.int .i64 (G : Int), .int .i64 (ev : Int), .int .i64 16777216, .slice Ay4 ((tbytes G ev ts).length) cy5, .slice By6 ((tstarts G ev ts).length) dy7, .int .i64 ((lastS ts).kind), .int .i64 ((lastS ts).node), .int .i64 ((lastS ts).phase), .int .i64 ((lastS ts).pos), .int .i64 ((lastS ts).start), .int .i64 ((lastS ts).depth), .int .i64 ((lastS ts).org), .slice Cy8 ((lastS ts).caps.length) ey9], .row (.slice Ay4 ((tbytes G ev ts).length) cy5) 5 1 ((tbytes G ev ts).length) (u8s (tbytes G ev ts)), .row (.slice By6 ((tstarts G ev ts).length) dy7) 3 1 ((tstarts G ev ts).length) (ints (tstarts G ev ts)), .row (.slice Cy8 ((lastS ts).caps.length) ey9) 3 1 ((lastS ts).caps.length) (ints (lastS ts).caps)]) (R := [_, _]) (S.sel [0, 1, 2, 3, 4, 5] ([.obj gy3 128 [.int .i64 (G : Int), .int .i64 (ev : Int), .int .i64 16777216, .slice Ay4 ((tbytes G ev ts).length) cy5, .slice By6 ((tstarts G ev ts).length) dy7, .int .i64 ((lastS ts).kind), .int .i64 ((lastS ts).node), .int .i64 ((lastS ts).phase), .int .i64 ((lastS ts).pos), .int .i64 ((lastS ts).start), .int .i64 ((lastS ts).depth), .int .i64 ((lastS ts).org), .slice Cy8 ((lastS ts).caps.length) ey9], .row (.slice Ay4 ((tbytes G ev ts).length) cy5) 5 1 ((tbytes G ev ts).length) (u8s (tbytes G ev ts)), .row (.slice By6 ((tstarts G ev ts).length) dy7) 3 1 ((tstarts G ev ts).length) (ints (tstarts G ev ts)), .row (.slice Cy8 ((lastS ts).caps.length) ey9) 3 1 ((lastS ts).caps.length) (ints (lastS ts).caps)] ++ [_, _]) rfl rfl)) hok hlim (by decide) ht) ?_; rintro e_ w ⟨D10, e11, rfl, S_⟩; refine ⟨_, rfl, (fun _ => S_.belT), ?_⟩; clear E a; intro a E
    replace S : St _ _ _ [_, .obj _ _ [_, _, _, _, _, _, _, _, _, _, _, _, _], _, _, _, _, _] := St.call (A := []) (R := [_, _, _, _, _, _]) S S_; clear S_
    refine Run.move rfl E rfl rfl rfl ?_; clear E a; intro a E
    refine Run.extract rfl E rfl rfl rfl rfl ?_; clear E a; intro a E
    refine Run.extract rfl E rfl rfl rfl rfl ?_; clear E a; intro a E
    refine Run.extract rfl E rfl rfl rfl rfl ?_; clear E a; intro a E
    refine Run.alloc rfl rfl E S rfl rfl z34 rfl ?_; clear E a S; intro b12 w a E S B_; clear B_
    refine Run.store (news := [.int .i64 t.kind, .int .i64 t.node, .int .i64 t.phase, .int .i64 t.pos, .int .i64 t.start, .int .i64 t.depth, .int .i64 t.org, .slice D10 t.caps.length e11]) (cs' := [_, _, _, _, _, _, _, _]) (hp' := [_, _, _, _, _, _, _, _]) 0 rfl E S rfl rfl rfl rfl rfl sz34 rfl rfl rfl rfl ?_; clear S; intro w S
    refine Run.assign rfl E rfl rfl rfl ?_; clear E a; intro a E
    refine Run.assign rfl E rfl rfl rfl ?_; clear E a; intro a E
    refine Run.nil ?_
    refine then_n ?_
    refine wp_seq ?_
    refine region_drawS (n := 11) [(0, .p), (1, .p), (2, .p), (4, .p), (5, .p), (6, .p), (3, .t), (7, .t), (8, .e), (9, .p), (10, .p)] [0, 1, 3, 7, 7, 7, 55, 119, 255, 511, 1023] S mixed rfl rfl (by kernel_rfl) (fun _ _ _ _ _ h => h) ?_; clear S; intro w S B_; clear B_
    refine Run.move rfl E rfl rfl rfl ?_; clear E a; intro a E
    refine Run.nei rfl E rfl rfl rfl rfl (b := false) (by decide) ?_; clear E a; intro a E
    refine Run.move rfl E rfl rfl rfl ?_; clear E a; intro a E
    refine Run.move rfl E rfl rfl rfl ?_; clear E a; intro a E
    refine Run.move rfl E rfl rfl rfl ?_; clear E a; intro a E
    obtain ⟨y, hy, hys⟩ := own_get hown ht
    have hyl := (List.getElem?_eq_some_iff.1 hy).1
    have hyc : y.s.caps.length = t.caps.length := by rw [hys]
    obtain ⟨bO, rfl⟩ := S.rowAddr 6 rfl (by omega)
    refine Run.indexAddr rfl E rfl rfl rfl rfl Try.underlying50 sz34 (by omega) (ix_at (m' := j) (o := j * 8) (by omega) rfl) ?_; clear E a; intro a E
    refine Run.loadN (cs := [.int .i64 t.kind, .int .i64 t.node, .int .i64 t.phase, .int .i64 t.pos, .int .i64 t.start, .int .i64 t.depth, .int .i64 t.org, .slice D10 t.caps.length e11]) rfl rfl E S rfl rfl rfl ag34 rfl (fun _ s => objAll s 0 rfl) ?_; clear E a; intro a E
    refine Run.loadN (cs := [.int .i64 y.s.kind, .int .i64 y.s.node, .int .i64 y.s.phase, .int .i64 y.s.pos, .int .i64 y.s.start, .int .i64 y.s.depth, .int .i64 y.s.org, .slice y.A y.s.caps.length y.c]) rfl rfl E S rfl rfl rfl ag34 rfl (fun _ s_ => rowAt s_ 6 _ _ rfl (stams_get hy)) ?_; clear E a; intro a E
    refine Run.call (args := [.agg #[.int .i64 t.kind, .int .i64 t.node, .int .i64 t.phase, .int .i64 t.pos, .int .i64 t.start, .int .i64 t.depth, .int .i64 t.org, .slice D10 t.caps.length e11], .agg #[.int .i64 y.s.kind, .int .i64 y.s.node, .int .i64 y.s.phase, .int .i64 y.s.pos, .int .i64 y.s.start, .int .i64 y.s.depth, .int .i64 y.s.org, .slice y.A y.s.caps.length y.c]]) rfl rfl E rfl rfl Try.func42 nm42 rfl rfl (same_walk (s := t) (t := y.s) (S.rd 1 rfl) (S.rowsRd (q := y.irow) 7 rfl (List.mem_map.2 ⟨y, List.mem_of_getElem? hy, rfl⟩)) (by omega)) ?_; rintro e_ w ⟨rfl, B_⟩; refine ⟨_, rfl, fun _ => B_, ?_⟩; clear E a; replace S := S.bel B_; intro a E
    clear B_
    replace E := E.setb 102 rfl (decide_eq_true hys.symm)
    refine Run.not rfl E rfl rfl rfl rfl ?_; clear E a; intro a E
    refine Run.pickF rfl E rfl rfl rfl rfl ?_; clear E a; intro a E
    refine Run.nil ?_
    refine then_n ?_
    refine cond_F E rfl ?_
    refine wp_skip ?_
    refine blk_n ?_
    refine then_n ?_
    refine region_plain (n := 2) [(0, .p), (1, .p)] rfl rfl ?_
    refine Run.add rfl E rfl rfl rfl rfl (i64_ok (by omega)) ?_; clear E a; intro a E
    refine Run.move rfl E rfl rfl rfl ?_; clear E a; intro a E
    refine Run.nil ?_
    refine then_n ?_
    replace E := E.setv 84 rfl (show Value.int .i64 ((j : Int) + 1) = .int .i64 ((j + 1 : Nat) : Int) from rfl)
    have S : St _ _ _ [_, _, _, _, _, _, _, _] := S.sel [0, 1, 2, 3, 4, 5, 6, 7] _ rfl rfl
    have S := S.drop1.drop1
    exact ⟨_, (by omega), (j + 1), rfl, E.keeps [(8, _), (9, _), (83, _), (84, _)] ⟨rfl, rfl, rfl, rfl, trivial⟩, S, (by omega)⟩
  · skip
    refine Run.lss rfl E rfl rfl rfl rfl (decide_eq_false (by omega)) ?_; clear E a; intro a E
    refine Run.nil ?_
    refine then_n ?_
    refine wp_seq ?_
    refine cond_F E rfl ?_
    refine wp_exit ?_
    refine then_x ?_
    refine then_x ?_
    refine blk_x ?_
    refine then_n ?_
    refine wp_seq ?_
    refine region_plain (n := 1) [(0, .p)] rfl rfl ?_
    refine Run.assign rfl E rfl rfl rfl ?_; clear E a; intro a E
    refine Run.nil ?_
    refine then_n ?_
    refine wp_ret ?_
    exact ret1 E Try.results5 rfl ⟨rfl, S.belT⟩

theorem fileOpens_walk (hL : Rd w0 L l.length 8 (stams l)) (hL2 : ∀ x ∈ l, x.ok w0) : Calls Try.prog 5 [.int .i64 gr, .int .i64 ev0, .slice L l.length cL].toArray w0 (fun r w' => r = .returned (.bool true) ∧ Bel w0 w') := by
  by_cases hn : (0 ≤ gr ∧ gr ≤ 99) ∧ (1 ≤ ev0 ∧ ev0 ≤ 1024) ∧ l.length ≤ 100
  · obtain ⟨⟨h1, h2⟩, ⟨h3, h4⟩, h5⟩ := hn
    obtain ⟨G, rfl⟩ : ∃ G : Nat, gr = (G : Int) := ⟨gr.toNat, by omega⟩
    obtain ⟨ev, rfl⟩ : ∃ ev : Nat, ev0 = (ev : Int) := ⟨ev0.toNat, by omega⟩
    have hG : G ≤ 99 := by omega
    have he0 : 1 ≤ ev := by omega
    have he1 : ev ≤ 1024 := by omega
    exact fopens_ok hG he0 he1 hL hL2 h5 rfl
  · exact fopens_out hn

end
end Go.Proofs.Ytlcglefbhlhcpaa.K
