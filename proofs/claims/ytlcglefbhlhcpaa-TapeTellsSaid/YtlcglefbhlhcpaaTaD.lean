/- TapeTells walked. -/
import Derived.Test.YtlcglefbhlhcpaaKg
import Derived.Test.YtlcglefbhlhcpaaTaC
namespace Go.Proofs.Ytlcglefbhlhcpaa.K
open Go.RowKit
set_option linter.unusedVariables false
set_option maxRecDepth 100000
set_option maxHeartbeats 400000

section
variable {w0 : World} {L : Option Addr} {cL : Nat} {l : List StaM} {G ev k : Nat} {lim gr ev0 k0 x : Int} {ts : List Sta} {t : Sta}

theorem ttells_bad (hn : ¬ ((0 ≤ gr ∧ gr ≤ 99) ∧ (1 ≤ ev0 ∧ ev0 ≤ 1024) ∧ (0 ≤ lim ∧ lim ≤ 16777216))) : Calls Try.prog 16 [.agg #[.int .i64 gr, .int .i64 ev0, .int .i64 lim], .slice L l.length cL, .int .i64 k0].toArray w0 (fun r w' => r = .returned (.bool true) ∧ Bel w0 w') := by
  have S := St.nil [] w0
  refine fn_start Try.func16 rfl 132 rfl rfl [(0, _), (1, _), (2, _)] ⟨rfl, rfl, rfl, trivial⟩ ?_; intro a E
  refine wp_seq ?_
  refine region_plain (n := 2) [(0, .e), (1, .p)] rfl rfl ?_
  refine Run.box (cs := [.int .i64 gr, .int .i64 ev0, .int .i64 lim]) rfl rfl E S rfl rfl rfl rfl ?_; clear E a S; intro b1 w a E S B_; clear B_
  refine Run.assign rfl E rfl rfl rfl ?_; clear E a; intro a E
  refine Run.nil ?_
  refine then_n ?_
  refine wp_seq ?_
  refine wp_seq ?_
  refine region_plain (n := 2) [(0, .e), (1, .p)] rfl rfl ?_
  refine Run.call (args := []) rfl rfl E rfl rfl Try.func68 nm68 rfl rfl (anchor19) ?_; rintro e_ w ⟨rfl, B_⟩; refine ⟨_, rfl, fun _ => B_, ?_⟩; clear E a; replace S := S.bel B_; intro a E
  clear B_
  refine Run.not rfl E rfl rfl rfl rfl ?_; clear E a; intro a E
  refine Run.nil ?_
  refine then_n ?_
  refine cond_F E rfl ?_
  refine wp_skip ?_
  refine then_n ?_
  refine wp_seq ?_
  refine wp_seq ?_
  refine region_plain (n := 8) [(0, .l), (1, .e), (2, .p), (3, .p), (4, .p), (5, .p), (6, .p), (7, .p)] rfl rfl ?_
  refine Run.loadN (cs := [.int .i64 gr, .int .i64 ev0, .int .i64 lim]) rfl rfl E S rfl rfl rfl ag102 rfl (fun _ s => objAll s 0 rfl) ?_; clear E a; intro a E
  refine Run.call (args := [.agg #[.int .i64 gr, .int .i64 ev0, .int .i64 lim]]) rfl rfl E rfl rfl Try.func69 nm69 rfl rfl (right19_bad hn) ?_; rintro e_ w ⟨rfl, B_⟩; refine ⟨_, rfl, fun _ => B_, ?_⟩; clear E a; replace S := S.bel B_; intro a E
  clear B_
  refine Run.not rfl E rfl rfl rfl rfl ?_; clear E a; intro a E
  refine Run.move rfl E rfl rfl rfl ?_; clear E a; intro a E
  refine Run.off rfl E rfl rfl ?_; clear E a; intro a E
  refine Run.off rfl E rfl rfl ?_; clear E a; intro a E
  refine Run.off rfl E rfl rfl ?_; clear E a; intro a E
  refine Run.pickT rfl E rfl rfl rfl rfl ?_; clear E a; intro a E
  refine Run.nil ?_
  refine then_n ?_
  refine cond_T E rfl ?_
  refine wp_seq ?_
  refine region_plain (n := 1) [(0, .p)] rfl rfl ?_
  refine Run.assign rfl E rfl rfl rfl ?_; clear E a; intro a E
  refine Run.nil ?_
  refine then_n ?_
  refine wp_ret ?_
  refine then_r ?_
  exact ret1 E Try.results16 rfl ⟨rfl, S.belT⟩

theorem ttells_long (hG : G ≤ 99) (he0 : 1 ≤ ev) (he1 : ev ≤ 1024) (hl0 : 0 ≤ lim) (hl1 : lim ≤ 16777216) (hll : (200 : Int) < (l.length : Int)) : Calls Try.prog 16 [.agg #[.int .i64 (G : Int), .int .i64 (ev : Int), .int .i64 lim], .slice L l.length cL, .int .i64 k0].toArray w0 (fun r w' => r = .returned (.bool true) ∧ Bel w0 w') := by
  have S := St.nil [] w0
  refine fn_start Try.func16 rfl 132 rfl rfl [(0, _), (1, _), (2, _)] ⟨rfl, rfl, rfl, trivial⟩ ?_; intro a E
  refine wp_seq ?_
  refine region_plain (n := 2) [(0, .e), (1, .p)] rfl rfl ?_
  refine Run.box (cs := [.int .i64 (G : Int), .int .i64 (ev : Int), .int .i64 lim]) rfl rfl E S rfl rfl rfl rfl ?_; clear E a S; intro b1 w a E S B_; clear B_
  refine Run.assign rfl E rfl rfl rfl ?_; clear E a; intro a E
  refine Run.nil ?_
  refine then_n ?_
  refine wp_seq ?_
  refine wp_seq ?_
  refine region_plain (n := 2) [(0, .e), (1, .p)] rfl rfl ?_
  refine Run.call (args := []) rfl rfl E rfl rfl Try.func68 nm68 rfl rfl (anchor19) ?_; rintro e_ w ⟨rfl, B_⟩; refine ⟨_, rfl, fun _ => B_, ?_⟩; clear E a; replace S := S.bel B_; intro a E
  clear B_
  refine Run.not rfl E rfl rfl rfl rfl ?_; clear E a; intro a E
  refine Run.nil ?_
  refine then_n ?_
  refine cond_F E rfl ?_
  refine wp_skip ?_
  refine then_n ?_
  refine wp_seq ?_
  refine wp_seq ?_
  refine region_plain (n := 8) [(0, .l), (1, .e), (2, .p), (3, .p), (4, .p), (5, .p), (6, .p), (7, .p)] rfl rfl ?_
  refine Run.loadN (cs := [.int .i64 (G : Int), .int .i64 (ev : Int), .int .i64 lim]) rfl rfl E S rfl rfl rfl ag102 rfl (fun _ s => objAll s 0 rfl) ?_; clear E a; intro a E
  refine Run.call (args := [.agg #[.int .i64 (G : Int), .int .i64 (ev : Int), .int .i64 lim]]) rfl rfl E rfl rfl Try.func69 nm69 rfl rfl (right19_ok hG he0 he1 hl0 hl1) ?_; rintro e_ w ⟨rfl, B_⟩; refine ⟨_, rfl, fun _ => B_, ?_⟩; clear E a; replace S := S.bel B_; intro a E
  clear B_
  refine Run.not rfl E rfl rfl rfl rfl ?_; clear E a; intro a E
  refine Run.move rfl E rfl rfl rfl ?_; clear E a; intro a E
  refine Run.move rfl E rfl rfl rfl ?_; clear E a; intro a E
  refine Run.len rfl E rfl rfl rfl Try.underlying50 ?_; clear E a; intro a E
  refine Run.gtr rfl E rfl rfl rfl rfl (decide_eq_true (by omega)) ?_; clear E a; intro a E
  refine Run.pickF rfl E rfl rfl rfl rfl ?_; clear E a; intro a E
  refine Run.nil ?_
  refine then_n ?_
  refine cond_T E rfl ?_
  refine wp_seq ?_
  refine region_plain (n := 1) [(0, .p)] rfl rfl ?_
  refine Run.assign rfl E rfl rfl rfl ?_; clear E a; intro a E
  refine Run.nil ?_
  refine then_n ?_
  refine wp_ret ?_
  refine then_r ?_
  exact ret1 E Try.results16 rfl ⟨rfl, S.belT⟩

theorem ttells_low (hG : G ≤ 99) (he0 : 1 ≤ ev) (he1 : ev ≤ 1024) (hl0 : 0 ≤ lim) (hl1 : lim ≤ 16777216) (hL : Rd w0 L l.length 8 (stams l)) (hL2 : ∀ x ∈ l, x.ok w0) (hll : l.length ≤ 200) (hts : ts = takes G ev lim (l.map StaM.s)) (h : k0 < 0) : Calls Try.prog 16 [.agg #[.int .i64 (G : Int), .int .i64 (ev : Int), .int .i64 lim], .slice L l.length cL, .int .i64 k0].toArray w0 (fun r w' => r = .returned (.bool true) ∧ Bel w0 w') := by
  have S := St.nil [] w0
  have hok : TapeOK G ev ts := by rw [hts]; exact takes_ok _ hG he0 he1 _
  have hlim : ((tbytes G ev ts).length : Int) ≤ lim := by rw [hts]; exact takes_lim hl0 _
  have htl : ts.length ≤ l.length := by have := takes_len G ev lim (l.map StaM.s); rw [← hts] at this; simpa using this
  obtain ⟨z1, z2, z3⟩ := sat_le hok hlim hl1
  refine fn_start Try.func16 rfl 132 rfl rfl [(0, _), (1, _), (2, _)] ⟨rfl, rfl, rfl, trivial⟩ ?_; intro a E
  refine wp_seq ?_
  refine region_plain (n := 2) [(0, .e), (1, .p)] rfl rfl ?_
  refine Run.box (cs := [.int .i64 (G : Int), .int .i64 (ev : Int), .int .i64 lim]) rfl rfl E S rfl rfl rfl rfl ?_; clear E a S; intro b1 w a E S B_; clear B_
  refine Run.assign rfl E rfl rfl rfl ?_; clear E a; intro a E
  refine Run.nil ?_
  refine then_n ?_
  refine wp_seq ?_
  refine wp_seq ?_
  refine region_plain (n := 2) [(0, .e), (1, .p)] rfl rfl ?_
  refine Run.call (args := []) rfl rfl E rfl rfl Try.func68 nm68 rfl rfl (anchor19) ?_; rintro e_ w ⟨rfl, B_⟩; refine ⟨_, rfl, fun _ => B_, ?_⟩; clear E a; replace S := S.bel B_; intro a E
  clear B_
  refine Run.not rfl E rfl rfl rfl rfl ?_; clear E a; intro a E
  refine Run.nil ?_
  refine then_n ?_
  refine cond_F E rfl ?_
  refine wp_skip ?_
  refine then_n ?_
  refine wp_seq ?_
  refine wp_seq ?_
  refine region_plain (n := 8) [(0, .l), (1, .e), (2, .p), (3, .p), (4, .p), (5, .p), (6, .p), (7, .p)] rfl rfl ?_
  refine Run.loadN (cs := [.int .i64 (G : Int), .int .i64 (ev : Int), .int .i64 lim]) rfl rfl E S rfl rfl rfl ag102 rfl (fun _ s => objAll s 0 rfl) ?_; clear E a; intro a E
  refine Run.call (args := [.agg #[.int .i64 (G : Int), .int .i64 (ev : Int), .int .i64 lim]]) rfl rfl E rfl rfl Try.func69 nm69 rfl rfl (right19_ok hG he0 he1 hl0 hl1) ?_; rintro e_ w ⟨rfl, B_⟩; refine ⟨_, rfl, fun _ => B_, ?_⟩; clear E a; replace S := S.bel B_; intro a E
  clear B_
  refine Run.not rfl E rfl rfl rfl rfl ?_; clear E a; intro a E
  refine Run.move rfl E rfl rfl rfl ?_; clear E a; intro a E
  refine Run.move rfl E rfl rfl rfl ?_; clear E a; intro a E
  refine Run.len rfl E rfl rfl rfl Try.underlying50 ?_; clear E a; intro a E
  refine Run.gtr rfl E rfl rfl rfl rfl (decide_eq_false (by omega)) ?_; clear E a; intro a E
  refine Run.pickF rfl E rfl rfl rfl rfl ?_; clear E a; intro a E
  refine Run.nil ?_
  refine then_n ?_
  refine cond_F E rfl ?_
  refine wp_skip ?_
  refine then_n ?_
  refine wp_seq ?_
  refine region_plain (n := 8) [(0, .l), (1, .p), (2, .e), (3, .p), (4, .p), (5, .p), (6, .p), (7, .p)] rfl rfl ?_
  refine Run.loadN (cs := [.int .i64 (G : Int), .int .i64 (ev : Int), .int .i64 lim]) rfl rfl E S rfl rfl rfl ag102 rfl (fun _ s => objAll s 0 rfl) ?_; clear E a; intro a E
  refine Run.move rfl E rfl rfl rfl ?_; clear E a; intro a E
  refine Run.call (args := [.agg #[.int .i64 (G : Int), .int .i64 (ev : Int), .int .i64 lim], .slice L l.length cL]) rfl rfl E rfl rfl Try.func70 nm70 rfl rfl (taped19_walk hG he0 he1 hl0 hl1 (hL.bel S.belT) (fun x hx => ⟨(hL2 x hx).1.bel S.belT, (hL2 x hx).2⟩) hll hts) ?_; rintro e_ w ⟨g, A, c, B, d, C, e, O, cO, own, hown, rfl, S_⟩; refine ⟨_, rfl, (fun _ => S_.belT), ?_⟩; clear E a; intro a E
  replace S : St _ _ _ [.obj _ _ [_, _, _, _, _, _, _, _, _, _, _, _, _], _, _, _, _, _, .obj _ _ [_, _, _]] := St.call (A := []) (R := [_]) S S_; clear S_
  have hol : own.length = ts.length := by rw [← hown, List.length_map]
  refine Run.move rfl E rfl rfl rfl ?_; clear E a; intro a E
  refine Run.extract rfl E rfl rfl rfl rfl ?_; clear E a; intro a E
  refine Run.extract rfl E rfl rfl rfl rfl ?_; clear E a; intro a E
  refine Run.assign rfl E rfl rfl rfl ?_; clear E a; intro a E
  refine Run.assign rfl E rfl rfl rfl ?_; clear E a; intro a E
  refine Run.nil ?_
  refine then_n ?_
  refine wp_seq ?_
  refine wp_seq ?_
  refine region_plain (n := 9) [(0, .p), (1, .p), (2, .p), (3, .p), (4, .e), (5, .p), (6, .p), (7, .p), (8, .p)] rfl rfl ?_
  refine Run.move rfl E rfl rfl rfl ?_; clear E a; intro a E
  refine Run.bin (v := .bool false) rfl E rfl rfl rfl rfl (fun _ => by kernel_rfl) ?_; clear E a; intro a E
  refine Run.move rfl E rfl rfl rfl ?_; clear E a; intro a E
  refine Run.move rfl E rfl rfl rfl ?_; clear E a; intro a E
  refine Run.call (args := [.pointer (some ⟨g, 0, none⟩)]) rfl rfl E rfl rfl Try.func38 nm38 rfl rfl (tape_len (St.holdsL (A := [.obj g 128 [.int .i64 (G : Int), .int .i64 (ev : Int), .int .i64 lim, .slice A ((tbytes G ev ts).length) c, .slice B ((tstarts G ev ts).length) d, .int .i64 ((lastS ts).kind), .int .i64 ((lastS ts).node), .int .i64 ((lastS ts).phase), .int .i64 ((lastS ts).pos), .int .i64 ((lastS ts).start), .int .i64 ((lastS ts).depth), .int .i64 ((lastS ts).org), .slice C ((lastS ts).caps.length) e], .row (.slice A ((tbytes G ev ts).length) c) 5 1 ((tbytes G ev ts).length) (u8s (tbytes G ev ts)), .row (.slice B ((tstarts G ev ts).length) d) 3 1 ((tstarts G ev ts).length) (ints (tstarts G ev ts)), .row (.slice C ((lastS ts).caps.length) e) 3 1 ((lastS ts).caps.length) (ints (lastS ts).caps)]) (R := [_, _, _]) (S.sel [0, 1, 2, 3, 4, 5, 6] ([.obj g 128 [.int .i64 (G : Int), .int .i64 (ev : Int), .int .i64 lim, .slice A ((tbytes G ev ts).length) c, .slice B ((tstarts G ev ts).length) d, .int .i64 ((lastS ts).kind), .int .i64 ((lastS ts).node), .int .i64 ((lastS ts).phase), .int .i64 ((lastS ts).pos), .int .i64 ((lastS ts).start), .int .i64 ((lastS ts).depth), .int .i64 ((lastS ts).org), .slice C ((lastS ts).caps.length) e], .row (.slice A ((tbytes G ev ts).length) c) 5 1 ((tbytes G ev ts).length) (u8s (tbytes G ev ts)), .row (.slice B ((tstarts G ev ts).length) d) 3 1 ((tstarts G ev ts).length) (ints (tstarts G ev ts)), .row (.slice C ((lastS ts).caps.length) e) 3 1 ((lastS ts).caps.length) (ints (lastS ts).caps)] ++ [_, _, _]) rfl rfl))) ?_; rintro e_ w ⟨rfl, B_⟩; refine ⟨_, rfl, fun _ => B_, ?_⟩; clear E a; replace S := S.bel B_; intro a E
  clear B_
  refine Run.move rfl E rfl rfl rfl ?_; clear E a; intro a E
  refine Run.len rfl E rfl rfl rfl Try.underlying50 ?_; clear E a; intro a E
  refine Run.nei rfl E rfl rfl rfl rfl (decide_eq_false (by rw [tstarts_len]; omega)) ?_; clear E a; intro a E
  refine Run.pickF rfl E rfl rfl rfl rfl ?_; clear E a; intro a E
  refine Run.nil ?_
  refine then_n ?_
  refine cond_F E rfl ?_
  refine wp_skip ?_
  refine then_n ?_
  refine wp_seq ?_
  refine region_plain (n := 11) [(0, .p), (1, .p), (2, .e), (3, .p), (4, .p), (5, .p), (6, .p), (7, .e), (8, .l), (9, .p), (10, .p)] rfl rfl ?_
  refine Run.move rfl E rfl rfl rfl ?_; clear E a; intro a E
  refine Run.move rfl E rfl rfl rfl ?_; clear E a; intro a E
  refine Run.call (args := [.pointer (some ⟨g, 0, none⟩), .int .i64 k0]) rfl rfl E rfl rfl Try.func41 nm41 rfl rfl (tat_low (St.holdsL (A := [.obj g 128 [.int .i64 (G : Int), .int .i64 (ev : Int), .int .i64 lim, .slice A ((tbytes G ev ts).length) c, .slice B ((tstarts G ev ts).length) d, .int .i64 ((lastS ts).kind), .int .i64 ((lastS ts).node), .int .i64 ((lastS ts).phase), .int .i64 ((lastS ts).pos), .int .i64 ((lastS ts).start), .int .i64 ((lastS ts).depth), .int .i64 ((lastS ts).org), .slice C ((lastS ts).caps.length) e], .row (.slice A ((tbytes G ev ts).length) c) 5 1 ((tbytes G ev ts).length) (u8s (tbytes G ev ts)), .row (.slice B ((tstarts G ev ts).length) d) 3 1 ((tstarts G ev ts).length) (ints (tstarts G ev ts)), .row (.slice C ((lastS ts).caps.length) e) 3 1 ((lastS ts).caps.length) (ints (lastS ts).caps)]) (R := [_, _, _]) (S.sel [0, 1, 2, 3, 4, 5, 6] ([.obj g 128 [.int .i64 (G : Int), .int .i64 (ev : Int), .int .i64 lim, .slice A ((tbytes G ev ts).length) c, .slice B ((tstarts G ev ts).length) d, .int .i64 ((lastS ts).kind), .int .i64 ((lastS ts).node), .int .i64 ((lastS ts).phase), .int .i64 ((lastS ts).pos), .int .i64 ((lastS ts).start), .int .i64 ((lastS ts).depth), .int .i64 ((lastS ts).org), .slice C ((lastS ts).caps.length) e], .row (.slice A ((tbytes G ev ts).length) c) 5 1 ((tbytes G ev ts).length) (u8s (tbytes G ev ts)), .row (.slice B ((tstarts G ev ts).length) d) 3 1 ((tstarts G ev ts).length) (ints (tstarts G ev ts)), .row (.slice C ((lastS ts).caps.length) e) 3 1 ((lastS ts).caps.length) (ints (lastS ts).caps)] ++ [_, _, _]) rfl rfl)) hok hlim hl1 h) ?_; rintro e_ w ⟨rfl, B_⟩; refine ⟨_, rfl, fun _ => B_, ?_⟩; clear E a; replace S := S.bel B_; intro a E
  clear B_
  refine Run.move rfl E rfl rfl rfl ?_; clear E a; intro a E
  refine Run.extract rfl E rfl rfl rfl rfl ?_; clear E a; intro a E
  refine Run.extract rfl E rfl rfl rfl rfl ?_; clear E a; intro a E
  refine Run.extract rfl E rfl rfl rfl rfl ?_; clear E a; intro a E
  refine Run.alloc rfl rfl E S rfl rfl z34 rfl ?_; clear E a S; intro b2 w a E S B_; clear B_
  refine Run.store (news := [.int .i64 0, .int .i64 0, .int .i64 0, .int .i64 0, .int .i64 0, .int .i64 0, .int .i64 0, .slice none 0 0]) (cs' := [_, _, _, _, _, _, _, _]) (hp' := [_, _, _, _, _, _, _, _]) 0 rfl E S rfl rfl rfl rfl rfl sz34 rfl rfl rfl rfl ?_; clear S; intro w S
  refine Run.assign rfl E rfl rfl rfl ?_; clear E a; intro a E
  refine Run.assign rfl E rfl rfl rfl ?_; clear E a; intro a E
  refine Run.nil ?_
  refine then_n ?_
  refine wp_seq ?_
  refine region_plain (n := 8) [(0, .p), (1, .p), (2, .e), (3, .p), (4, .p), (5, .p), (6, .p), (7, .p)] rfl rfl ?_
  refine Run.move rfl E rfl rfl rfl ?_; clear E a; intro a E
  refine Run.move rfl E rfl rfl rfl ?_; clear E a; intro a E
  refine Run.call (args := [.pointer (some ⟨g, 0, none⟩), .int .i64 k0]) rfl rfl E rfl rfl Try.func71 nm71 rfl rfl (tblock_low (St.holdsL (A := [.obj g 128 [.int .i64 (G : Int), .int .i64 (ev : Int), .int .i64 lim, .slice A ((tbytes G ev ts).length) c, .slice B ((tstarts G ev ts).length) d, .int .i64 ((lastS ts).kind), .int .i64 ((lastS ts).node), .int .i64 ((lastS ts).phase), .int .i64 ((lastS ts).pos), .int .i64 ((lastS ts).start), .int .i64 ((lastS ts).depth), .int .i64 ((lastS ts).org), .slice C ((lastS ts).caps.length) e], .row (.slice A ((tbytes G ev ts).length) c) 5 1 ((tbytes G ev ts).length) (u8s (tbytes G ev ts)), .row (.slice B ((tstarts G ev ts).length) d) 3 1 ((tstarts G ev ts).length) (ints (tstarts G ev ts)), .row (.slice C ((lastS ts).caps.length) e) 3 1 ((lastS ts).caps.length) (ints (lastS ts).caps)]) (R := [_, _, _, _]) (S.sel [1, 2, 3, 4, 0, 5, 6, 7] ([.obj g 128 [.int .i64 (G : Int), .int .i64 (ev : Int), .int .i64 lim, .slice A ((tbytes G ev ts).length) c, .slice B ((tstarts G ev ts).length) d, .int .i64 ((lastS ts).kind), .int .i64 ((lastS ts).node), .int .i64 ((lastS ts).phase), .int .i64 ((lastS ts).pos), .int .i64 ((lastS ts).start), .int .i64 ((lastS ts).depth), .int .i64 ((lastS ts).org), .slice C ((lastS ts).caps.length) e], .row (.slice A ((tbytes G ev ts).length) c) 5 1 ((tbytes G ev ts).length) (u8s (tbytes G ev ts)), .row (.slice B ((tstarts G ev ts).length) d) 3 1 ((tstarts G ev ts).length) (ints (tstarts G ev ts)), .row (.slice C ((lastS ts).caps.length) e) 3 1 ((lastS ts).caps.length) (ints (lastS ts).caps)] ++ [_, _, _, _]) rfl rfl)) hok hlim hl1 h) ?_; rintro e_ w ⟨rfl, B_⟩; refine ⟨_, rfl, fun _ => B_, ?_⟩; clear E a; replace S := S.bel B_; intro a E
  clear B_
  refine Run.move rfl E rfl rfl rfl ?_; clear E a; intro a E
  refine Run.extract rfl E rfl rfl rfl rfl ?_; clear E a; intro a E
  refine Run.extract rfl E rfl rfl rfl rfl ?_; clear E a; intro a E
  refine Run.assign rfl E rfl rfl rfl ?_; clear E a; intro a E
  refine Run.assign rfl E rfl rfl rfl ?_; clear E a; intro a E
  refine Run.nil ?_
  refine then_n ?_
  refine wp_seq ?_
  refine wp_seq ?_
  refine region_plain (n := 8) [(0, .p), (1, .p), (2, .p), (3, .p), (4, .p), (5, .p), (6, .p), (7, .p)] rfl rfl ?_
  refine Run.move rfl E rfl rfl rfl ?_; clear E a; intro a E
  refine Run.lss rfl E rfl rfl rfl rfl (decide_eq_true (by omega)) ?_; clear E a; intro a E
  refine Run.move rfl E rfl rfl rfl ?_; clear E a; intro a E
  refine Run.off rfl E rfl rfl ?_; clear E a; intro a E
  refine Run.off rfl E rfl rfl ?_; clear E a; intro a E
  refine Run.off rfl E rfl rfl ?_; clear E a; intro a E
  refine Run.off rfl E rfl rfl ?_; clear E a; intro a E
  refine Run.pickT rfl E rfl rfl rfl rfl ?_; clear E a; intro a E
  refine Run.nil ?_
  refine then_n ?_
  refine cond_T E rfl ?_
  refine wp_seq ?_
  refine region_plain (n := 21) [(0, .p), (1, .p), (2, .p), (3, .p), (4, .p), (5, .p), (6, .p), (7, .p), (8, .p), (9, .p), (10, .p), (11, .p), (12, .p), (13, .p), (14, .p), (15, .p), (16, .l), (17, .p), (18, .e), (19, .p), (20, .p)] rfl rfl ?_
  refine Run.move rfl E rfl rfl rfl ?_; clear E a; intro a E
  refine Run.eqi rfl E rfl rfl rfl rfl (b := true) (by decide) ?_; clear E a; intro a E
  refine Run.move rfl E rfl rfl rfl ?_; clear E a; intro a E
  refine Run.move rfl E rfl rfl rfl ?_; clear E a; intro a E
  refine Run.eqi rfl E rfl rfl rfl rfl (b := true) (by decide) ?_; clear E a; intro a E
  refine Run.pickT rfl E rfl rfl rfl rfl ?_; clear E a; intro a E
  refine Run.move rfl E rfl rfl rfl ?_; clear E a; intro a E
  refine Run.move rfl E rfl rfl rfl ?_; clear E a; intro a E
  refine Run.eqi rfl E rfl rfl rfl rfl (b := true) (by decide) ?_; clear E a; intro a E
  refine Run.pickT rfl E rfl rfl rfl rfl ?_; clear E a; intro a E
  refine Run.move rfl E rfl rfl rfl ?_; clear E a; intro a E
  refine Run.move rfl E rfl rfl rfl ?_; clear E a; intro a E
  refine Run.len rfl E rfl rfl rfl Try.underlying50 ?_; clear E a; intro a E
  refine Run.eqi rfl E rfl rfl rfl rfl (b := true) (by decide) ?_; clear E a; intro a E
  refine Run.pickT rfl E rfl rfl rfl rfl ?_; clear E a; intro a E
  refine Run.move rfl E rfl rfl rfl ?_; clear E a; intro a E
  refine Run.loadN (cs := [.int .i64 0, .int .i64 0, .int .i64 0, .int .i64 0, .int .i64 0, .int .i64 0, .int .i64 0, .slice none 0 0]) rfl rfl E S rfl rfl rfl ag34 rfl (fun _ s => objAll s 0 rfl) ?_; clear E a; intro a E
  refine Run.build (cs := #[.int .i64 0, .int .i64 0, .int .i64 0, .int .i64 0, .int .i64 0, .int .i64 0, .int .i64 0, .slice none 0 0]) [] rfl E rfl rfl rfl (by kernel_rfl) ?_; clear E a; intro a E
  refine Run.call (args := [.agg #[.int .i64 0, .int .i64 0, .int .i64 0, .int .i64 0, .int .i64 0, .int .i64 0, .int .i64 0, .slice none 0 0], .agg #[.int .i64 0, .int .i64 0, .int .i64 0, .int .i64 0, .int .i64 0, .int .i64 0, .int .i64 0, .slice none 0 0]]) rfl rfl E rfl rfl Try.func42 nm42 rfl rfl (same_walk (s := Sta.zero) (t := Sta.zero) (Rd.nil _ _ _) (Rd.nil _ _ _) (by decide)) ?_; rintro e_ w ⟨rfl, B_⟩; refine ⟨_, rfl, fun _ => B_, ?_⟩; clear E a; replace S := S.bel B_; intro a E
  clear B_
  replace E := E.setb 79 rfl (decide_eq_true rfl)
  refine Run.pickT rfl E rfl rfl rfl rfl ?_; clear E a; intro a E
  refine Run.assign rfl E rfl rfl rfl ?_; clear E a; intro a E
  refine Run.nil ?_
  refine then_n ?_
  refine wp_ret ?_
  refine then_r ?_
  exact ret1 E Try.results16 rfl ⟨rfl, S.belT⟩

theorem ttells_high (hG : G ≤ 99) (he0 : 1 ≤ ev) (he1 : ev ≤ 1024) (hl0 : 0 ≤ lim) (hl1 : lim ≤ 16777216) (hL : Rd w0 L l.length 8 (stams l)) (hL2 : ∀ x ∈ l, x.ok w0) (hll : l.length ≤ 200) (hts : ts = takes G ev lim (l.map StaM.s)) (h0 : 0 ≤ k0) (h : (ts.length : Int) ≤ k0) : Calls Try.prog 16 [.agg #[.int .i64 (G : Int), .int .i64 (ev : Int), .int .i64 lim], .slice L l.length cL, .int .i64 k0].toArray w0 (fun r w' => r = .returned (.bool true) ∧ Bel w0 w') := by
  have S := St.nil [] w0
  have hok : TapeOK G ev ts := by rw [hts]; exact takes_ok _ hG he0 he1 _
  have hlim : ((tbytes G ev ts).length : Int) ≤ lim := by rw [hts]; exact takes_lim hl0 _
  have htl : ts.length ≤ l.length := by have := takes_len G ev lim (l.map StaM.s); rw [← hts] at this; simpa using this
  obtain ⟨z1, z2, z3⟩ := sat_le hok hlim hl1
  refine fn_start Try.func16 rfl 132 rfl rfl [(0, _), (1, _), (2, _)] ⟨rfl, rfl, rfl, trivial⟩ ?_; intro a E
  refine wp_seq ?_
  refine region_plain (n := 2) [(0, .e), (1, .p)] rfl rfl ?_
  refine Run.box (cs := [.int .i64 (G : Int), .int .i64 (ev : Int), .int .i64 lim]) rfl rfl E S rfl rfl rfl rfl ?_; clear E a S; intro b1 w a E S B_; clear B_
  refine Run.assign rfl E rfl rfl rfl ?_; clear E a; intro a E
  refine Run.nil ?_
  refine then_n ?_
  refine wp_seq ?_
  refine wp_seq ?_
  refine region_plain (n := 2) [(0, .e), (1, .p)] rfl rfl ?_
  refine Run.call (args := []) rfl rfl E rfl rfl Try.func68 nm68 rfl rfl (anchor19) ?_; rintro e_ w ⟨rfl, B_⟩; refine ⟨_, rfl, fun _ => B_, ?_⟩; clear E a; replace S := S.bel B_; intro a E
  clear B_
  refine Run.not rfl E rfl rfl rfl rfl ?_; clear E a; intro a E
  refine Run.nil ?_
  refine then_n ?_
  refine cond_F E rfl ?_
  refine wp_skip ?_
  refine then_n ?_
  refine wp_seq ?_
  refine wp_seq ?_
  refine region_plain (n := 8) [(0, .l), (1, .e), (2, .p), (3, .p), (4, .p), (5, .p), (6, .p), (7, .p)] rfl rfl ?_
  refine Run.loadN (cs := [.int .i64 (G : Int), .int .i64 (ev : Int), .int .i64 lim]) rfl rfl E S rfl rfl rfl ag102 rfl (fun _ s => objAll s 0 rfl) ?_; clear E a; intro a E
  refine Run.call (args := [.agg #[.int .i64 (G : Int), .int .i64 (ev : Int), .int .i64 lim]]) rfl rfl E rfl rfl Try.func69 nm69 rfl rfl (right19_ok hG he0 he1 hl0 hl1) ?_; rintro e_ w ⟨rfl, B_⟩; refine ⟨_, rfl, fun _ => B_, ?_⟩; clear E a; replace S := S.bel B_; intro a E
  clear B_
  refine Run.not rfl E rfl rfl rfl rfl ?_; clear E a; intro a E
  refine Run.move rfl E rfl rfl rfl ?_; clear E a; intro a E
  refine Run.move rfl E rfl rfl rfl ?_; clear E a; intro a E
  refine Run.len rfl E rfl rfl rfl Try.underlying50 ?_; clear E a; intro a E
  refine Run.gtr rfl E rfl rfl rfl rfl (decide_eq_false (by omega)) ?_; clear E a; intro a E
  refine Run.pickF rfl E rfl rfl rfl rfl ?_; clear E a; intro a E
  refine Run.nil ?_
  refine then_n ?_
  refine cond_F E rfl ?_
  refine wp_skip ?_
  refine then_n ?_
  refine wp_seq ?_
  refine region_plain (n := 8) [(0, .l), (1, .p), (2, .e), (3, .p), (4, .p), (5, .p), (6, .p), (7, .p)] rfl rfl ?_
  refine Run.loadN (cs := [.int .i64 (G : Int), .int .i64 (ev : Int), .int .i64 lim]) rfl rfl E S rfl rfl rfl ag102 rfl (fun _ s => objAll s 0 rfl) ?_; clear E a; intro a E
  refine Run.move rfl E rfl rfl rfl ?_; clear E a; intro a E
  refine Run.call (args := [.agg #[.int .i64 (G : Int), .int .i64 (ev : Int), .int .i64 lim], .slice L l.length cL]) rfl rfl E rfl rfl Try.func70 nm70 rfl rfl (taped19_walk hG he0 he1 hl0 hl1 (hL.bel S.belT) (fun x hx => ⟨(hL2 x hx).1.bel S.belT, (hL2 x hx).2⟩) hll hts) ?_; rintro e_ w ⟨g, A, c, B, d, C, e, O, cO, own, hown, rfl, S_⟩; refine ⟨_, rfl, (fun _ => S_.belT), ?_⟩; clear E a; intro a E
  replace S : St _ _ _ [.obj _ _ [_, _, _, _, _, _, _, _, _, _, _, _, _], _, _, _, _, _, .obj _ _ [_, _, _]] := St.call (A := []) (R := [_]) S S_; clear S_
  have hol : own.length = ts.length := by rw [← hown, List.length_map]
  refine Run.move rfl E rfl rfl rfl ?_; clear E a; intro a E
  refine Run.extract rfl E rfl rfl rfl rfl ?_; clear E a; intro a E
  refine Run.extract rfl E rfl rfl rfl rfl ?_; clear E a; intro a E
  refine Run.assign rfl E rfl rfl rfl ?_; clear E a; intro a E
  refine Run.assign rfl E rfl rfl rfl ?_; clear E a; intro a E
  refine Run.nil ?_
  refine then_n ?_
  refine wp_seq ?_
  refine wp_seq ?_
  refine region_plain (n := 9) [(0, .p), (1, .p), (2, .p), (3, .p), (4, .e), (5, .p), (6, .p), (7, .p), (8, .p)] rfl rfl ?_
  refine Run.move rfl E rfl rfl rfl ?_; clear E a; intro a E
  refine Run.bin (v := .bool false) rfl E rfl rfl rfl rfl (fun _ => by kernel_rfl) ?_; clear E a; intro a E
  refine Run.move rfl E rfl rfl rfl ?_; clear E a; intro a E
  refine Run.move rfl E rfl rfl rfl ?_; clear E a; intro a E
  refine Run.call (args := [.pointer (some ⟨g, 0, none⟩)]) rfl rfl E rfl rfl Try.func38 nm38 rfl rfl (tape_len (St.holdsL (A := [.obj g 128 [.int .i64 (G : Int), .int .i64 (ev : Int), .int .i64 lim, .slice A ((tbytes G ev ts).length) c, .slice B ((tstarts G ev ts).length) d, .int .i64 ((lastS ts).kind), .int .i64 ((lastS ts).node), .int .i64 ((lastS ts).phase), .int .i64 ((lastS ts).pos), .int .i64 ((lastS ts).start), .int .i64 ((lastS ts).depth), .int .i64 ((lastS ts).org), .slice C ((lastS ts).caps.length) e], .row (.slice A ((tbytes G ev ts).length) c) 5 1 ((tbytes G ev ts).length) (u8s (tbytes G ev ts)), .row (.slice B ((tstarts G ev ts).length) d) 3 1 ((tstarts G ev ts).length) (ints (tstarts G ev ts)), .row (.slice C ((lastS ts).caps.length) e) 3 1 ((lastS ts).caps.length) (ints (lastS ts).caps)]) (R := [_, _, _]) (S.sel [0, 1, 2, 3, 4, 5, 6] ([.obj g 128 [.int .i64 (G : Int), .int .i64 (ev : Int), .int .i64 lim, .slice A ((tbytes G ev ts).length) c, .slice B ((tstarts G ev ts).length) d, .int .i64 ((lastS ts).kind), .int .i64 ((lastS ts).node), .int .i64 ((lastS ts).phase), .int .i64 ((lastS ts).pos), .int .i64 ((lastS ts).start), .int .i64 ((lastS ts).depth), .int .i64 ((lastS ts).org), .slice C ((lastS ts).caps.length) e], .row (.slice A ((tbytes G ev ts).length) c) 5 1 ((tbytes G ev ts).length) (u8s (tbytes G ev ts)), .row (.slice B ((tstarts G ev ts).length) d) 3 1 ((tstarts G ev ts).length) (ints (tstarts G ev ts)), .row (.slice C ((lastS ts).caps.length) e) 3 1 ((lastS ts).caps.length) (ints (lastS ts).caps)] ++ [_, _, _]) rfl rfl))) ?_; rintro e_ w ⟨rfl, B_⟩; refine ⟨_, rfl, fun _ => B_, ?_⟩; clear E a; replace S := S.bel B_; intro a E
  clear B_
  refine Run.move rfl E rfl rfl rfl ?_; clear E a; intro a E
  refine Run.len rfl E rfl rfl rfl Try.underlying50 ?_; clear E a; intro a E
  refine Run.nei rfl E rfl rfl rfl rfl (decide_eq_false (by rw [tstarts_len]; omega)) ?_; clear E a; intro a E
  refine Run.pickF rfl E rfl rfl rfl rfl ?_; clear E a; intro a E
  refine Run.nil ?_
  refine then_n ?_
  refine cond_F E rfl ?_
  refine wp_skip ?_
  refine then_n ?_
  refine wp_seq ?_
  refine region_plain (n := 11) [(0, .p), (1, .p), (2, .e), (3, .p), (4, .p), (5, .p), (6, .p), (7, .e), (8, .l), (9, .p), (10, .p)] rfl rfl ?_
  refine Run.move rfl E rfl rfl rfl ?_; clear E a; intro a E
  refine Run.move rfl E rfl rfl rfl ?_; clear E a; intro a E
  refine Run.call (args := [.pointer (some ⟨g, 0, none⟩), .int .i64 k0]) rfl rfl E rfl rfl Try.func41 nm41 rfl rfl (tat_high (St.holdsL (A := [.obj g 128 [.int .i64 (G : Int), .int .i64 (ev : Int), .int .i64 lim, .slice A ((tbytes G ev ts).length) c, .slice B ((tstarts G ev ts).length) d, .int .i64 ((lastS ts).kind), .int .i64 ((lastS ts).node), .int .i64 ((lastS ts).phase), .int .i64 ((lastS ts).pos), .int .i64 ((lastS ts).start), .int .i64 ((lastS ts).depth), .int .i64 ((lastS ts).org), .slice C ((lastS ts).caps.length) e], .row (.slice A ((tbytes G ev ts).length) c) 5 1 ((tbytes G ev ts).length) (u8s (tbytes G ev ts)), .row (.slice B ((tstarts G ev ts).length) d) 3 1 ((tstarts G ev ts).length) (ints (tstarts G ev ts)), .row (.slice C ((lastS ts).caps.length) e) 3 1 ((lastS ts).caps.length) (ints (lastS ts).caps)]) (R := [_, _, _]) (S.sel [0, 1, 2, 3, 4, 5, 6] ([.obj g 128 [.int .i64 (G : Int), .int .i64 (ev : Int), .int .i64 lim, .slice A ((tbytes G ev ts).length) c, .slice B ((tstarts G ev ts).length) d, .int .i64 ((lastS ts).kind), .int .i64 ((lastS ts).node), .int .i64 ((lastS ts).phase), .int .i64 ((lastS ts).pos), .int .i64 ((lastS ts).start), .int .i64 ((lastS ts).depth), .int .i64 ((lastS ts).org), .slice C ((lastS ts).caps.length) e], .row (.slice A ((tbytes G ev ts).length) c) 5 1 ((tbytes G ev ts).length) (u8s (tbytes G ev ts)), .row (.slice B ((tstarts G ev ts).length) d) 3 1 ((tstarts G ev ts).length) (ints (tstarts G ev ts)), .row (.slice C ((lastS ts).caps.length) e) 3 1 ((lastS ts).caps.length) (ints (lastS ts).caps)] ++ [_, _, _]) rfl rfl)) hok hlim hl1 h0 h) ?_; rintro e_ w ⟨rfl, B_⟩; refine ⟨_, rfl, fun _ => B_, ?_⟩; clear E a; replace S := S.bel B_; intro a E
  clear B_
  refine Run.move rfl E rfl rfl rfl ?_; clear E a; intro a E
  refine Run.extract rfl E rfl rfl rfl rfl ?_; clear E a; intro a E
  refine Run.extract rfl E rfl rfl rfl rfl ?_; clear E a; intro a E
  refine Run.extract rfl E rfl rfl rfl rfl ?_; clear E a; intro a E
  refine Run.alloc rfl rfl E S rfl rfl z34 rfl ?_; clear E a S; intro b2 w a E S B_; clear B_
  refine Run.store (news := [.int .i64 0, .int .i64 0, .int .i64 0, .int .i64 0, .int .i64 0, .int .i64 0, .int .i64 0, .slice none 0 0]) (cs' := [_, _, _, _, _, _, _, _]) (hp' := [_, _, _, _, _, _, _, _]) 0 rfl E S rfl rfl rfl rfl rfl sz34 rfl rfl rfl rfl ?_; clear S; intro w S
  refine Run.assign rfl E rfl rfl rfl ?_; clear E a; intro a E
  refine Run.assign rfl E rfl rfl rfl ?_; clear E a; intro a E
  refine Run.nil ?_
  refine then_n ?_
  refine wp_seq ?_
  refine region_plain (n := 8) [(0, .p), (1, .p), (2, .e), (3, .p), (4, .p), (5, .p), (6, .p), (7, .p)] rfl rfl ?_
  refine Run.move rfl E rfl rfl rfl ?_; clear E a; intro a E
  refine Run.move rfl E rfl rfl rfl ?_; clear E a; intro a E
  refine Run.call (args := [.pointer (some ⟨g, 0, none⟩), .int .i64 k0]) rfl rfl E rfl rfl Try.func71 nm71 rfl rfl (tblock_high (St.holdsL (A := [.obj g 128 [.int .i64 (G : Int), .int .i64 (ev : Int), .int .i64 lim, .slice A ((tbytes G ev ts).length) c, .slice B ((tstarts G ev ts).length) d, .int .i64 ((lastS ts).kind), .int .i64 ((lastS ts).node), .int .i64 ((lastS ts).phase), .int .i64 ((lastS ts).pos), .int .i64 ((lastS ts).start), .int .i64 ((lastS ts).depth), .int .i64 ((lastS ts).org), .slice C ((lastS ts).caps.length) e], .row (.slice A ((tbytes G ev ts).length) c) 5 1 ((tbytes G ev ts).length) (u8s (tbytes G ev ts)), .row (.slice B ((tstarts G ev ts).length) d) 3 1 ((tstarts G ev ts).length) (ints (tstarts G ev ts)), .row (.slice C ((lastS ts).caps.length) e) 3 1 ((lastS ts).caps.length) (ints (lastS ts).caps)]) (R := [_, _, _, _]) (S.sel [1, 2, 3, 4, 0, 5, 6, 7] ([.obj g 128 [.int .i64 (G : Int), .int .i64 (ev : Int), .int .i64 lim, .slice A ((tbytes G ev ts).length) c, .slice B ((tstarts G ev ts).length) d, .int .i64 ((lastS ts).kind), .int .i64 ((lastS ts).node), .int .i64 ((lastS ts).phase), .int .i64 ((lastS ts).pos), .int .i64 ((lastS ts).start), .int .i64 ((lastS ts).depth), .int .i64 ((lastS ts).org), .slice C ((lastS ts).caps.length) e], .row (.slice A ((tbytes G ev ts).length) c) 5 1 ((tbytes G ev ts).length) (u8s (tbytes G ev ts)), .row (.slice B ((tstarts G ev ts).length) d) 3 1 ((tstarts G ev ts).length) (ints (tstarts G ev ts)), .row (.slice C ((lastS ts).caps.length) e) 3 1 ((lastS ts).caps.length) (ints (lastS ts).caps)] ++ [_, _, _, _]) rfl rfl)) hok hlim hl1 h0 h) ?_; rintro e_ w ⟨rfl, B_⟩; refine ⟨_, rfl, fun _ => B_, ?_⟩; clear E a; replace S := S.bel B_; intro a E
  clear B_
  refine Run.move rfl E rfl rfl rfl ?_; clear E a; intro a E
  refine Run.extract rfl E rfl rfl rfl rfl ?_; clear E a; intro a E
  refine Run.extract rfl E rfl rfl rfl rfl ?_; clear E a; intro a E
  refine Run.assign rfl E rfl rfl rfl ?_; clear E a; intro a E
  refine Run.assign rfl E rfl rfl rfl ?_; clear E a; intro a E
  refine Run.nil ?_
  refine then_n ?_
  refine wp_seq ?_
  refine wp_seq ?_
  refine region_plain (n := 8) [(0, .p), (1, .p), (2, .p), (3, .p), (4, .p), (5, .p), (6, .p), (7, .p)] rfl rfl ?_
  refine Run.move rfl E rfl rfl rfl ?_; clear E a; intro a E
  refine Run.lss rfl E rfl rfl rfl rfl (decide_eq_false (by omega)) ?_; clear E a; intro a E
  refine Run.move rfl E rfl rfl rfl ?_; clear E a; intro a E
  refine Run.move rfl E rfl rfl rfl ?_; clear E a; intro a E
  refine Run.move rfl E rfl rfl rfl ?_; clear E a; intro a E
  refine Run.len rfl E rfl rfl rfl Try.underlying50 ?_; clear E a; intro a E
  refine Run.geq rfl E rfl rfl rfl rfl (decide_eq_true (by omega)) ?_; clear E a; intro a E
  refine Run.pickF rfl E rfl rfl rfl rfl ?_; clear E a; intro a E
  refine Run.nil ?_
  refine then_n ?_
  refine cond_T E rfl ?_
  refine wp_seq ?_
  refine region_plain (n := 21) [(0, .p), (1, .p), (2, .p), (3, .p), (4, .p), (5, .p), (6, .p), (7, .p), (8, .p), (9, .p), (10, .p), (11, .p), (12, .p), (13, .p), (14, .p), (15, .p), (16, .l), (17, .p), (18, .e), (19, .p), (20, .p)] rfl rfl ?_
  refine Run.move rfl E rfl rfl rfl ?_; clear E a; intro a E
  refine Run.eqi rfl E rfl rfl rfl rfl (b := true) (by decide) ?_; clear E a; intro a E
  refine Run.move rfl E rfl rfl rfl ?_; clear E a; intro a E
  refine Run.move rfl E rfl rfl rfl ?_; clear E a; intro a E
  refine Run.eqi rfl E rfl rfl rfl rfl (b := true) (by decide) ?_; clear E a; intro a E
  refine Run.pickT rfl E rfl rfl rfl rfl ?_; clear E a; intro a E
  refine Run.move rfl E rfl rfl rfl ?_; clear E a; intro a E
  refine Run.move rfl E rfl rfl rfl ?_; clear E a; intro a E
  refine Run.eqi rfl E rfl rfl rfl rfl (b := true) (by decide) ?_; clear E a; intro a E
  refine Run.pickT rfl E rfl rfl rfl rfl ?_; clear E a; intro a E
  refine Run.move rfl E rfl rfl rfl ?_; clear E a; intro a E
  refine Run.move rfl E rfl rfl rfl ?_; clear E a; intro a E
  refine Run.len rfl E rfl rfl rfl Try.underlying50 ?_; clear E a; intro a E
  refine Run.eqi rfl E rfl rfl rfl rfl (b := true) (by decide) ?_; clear E a; intro a E
  refine Run.pickT rfl E rfl rfl rfl rfl ?_; clear E a; intro a E
  refine Run.move rfl E rfl rfl rfl ?_; clear E a; intro a E
  refine Run.loadN (cs := [.int .i64 0, .int .i64 0, .int .i64 0, .int .i64 0, .int .i64 0, .int .i64 0, .int .i64 0, .slice none 0 0]) rfl rfl E S rfl rfl rfl ag34 rfl (fun _ s => objAll s 0 rfl) ?_; clear E a; intro a E
  refine Run.build (cs := #[.int .i64 0, .int .i64 0, .int .i64 0, .int .i64 0, .int .i64 0, .int .i64 0, .int .i64 0, .slice none 0 0]) [] rfl E rfl rfl rfl (by kernel_rfl) ?_; clear E a; intro a E
  refine Run.call (args := [.agg #[.int .i64 0, .int .i64 0, .int .i64 0, .int .i64 0, .int .i64 0, .int .i64 0, .int .i64 0, .slice none 0 0], .agg #[.int .i64 0, .int .i64 0, .int .i64 0, .int .i64 0, .int .i64 0, .int .i64 0, .int .i64 0, .slice none 0 0]]) rfl rfl E rfl rfl Try.func42 nm42 rfl rfl (same_walk (s := Sta.zero) (t := Sta.zero) (Rd.nil _ _ _) (Rd.nil _ _ _) (by decide)) ?_; rintro e_ w ⟨rfl, B_⟩; refine ⟨_, rfl, fun _ => B_, ?_⟩; clear E a; replace S := S.bel B_; intro a E
  clear B_
  replace E := E.setb 79 rfl (decide_eq_true rfl)
  refine Run.pickT rfl E rfl rfl rfl rfl ?_; clear E a; intro a E
  refine Run.assign rfl E rfl rfl rfl ?_; clear E a; intro a E
  refine Run.nil ?_
  refine then_n ?_
  refine wp_ret ?_
  refine then_r ?_
  exact ret1 E Try.results16 rfl ⟨rfl, S.belT⟩

theorem ttells_ok (hG : G ≤ 99) (he0 : 1 ≤ ev) (he1 : ev ≤ 1024) (hl0 : 0 ≤ lim) (hl1 : lim ≤ 16777216) (hL : Rd w0 L l.length 8 (stams l)) (hL2 : ∀ x ∈ l, x.ok w0) (hll : l.length ≤ 200) (hts : ts = takes G ev lim (l.map StaM.s)) (ht : ts[k]? = some t) : Calls Try.prog 16 [.agg #[.int .i64 (G : Int), .int .i64 (ev : Int), .int .i64 lim], .slice L l.length cL, .int .i64 (k : Int)].toArray w0 (fun r w' => r = .returned (.bool true) ∧ Bel w0 w') := by
  have S := St.nil [] w0
  have hok : TapeOK G ev ts := by rw [hts]; exact takes_ok _ hG he0 he1 _
  have hlim : ((tbytes G ev ts).length : Int) ≤ lim := by rw [hts]; exact takes_lim hl0 _
  have htl : ts.length ≤ l.length := by have := takes_len G ev lim (l.map StaM.s); rw [← hts] at this; simpa using this
  obtain ⟨z1, z2, z3⟩ := sat_le hok hlim hl1
  have hkt : k < ts.length := (List.getElem?_eq_some_iff.1 ht).1
  obtain ⟨m, hm⟩ : ∃ m, m = k % ev := ⟨_, rfl⟩
  have hmk : m ≤ k := by rw [hm]; exact Nat.mod_le _ _
  have hme : m < ev := by rw [hm]; exact Nat.mod_lt _ he0
  have htc := right_capl (hok.right t (List.mem_of_getElem? ht))
  refine fn_start Try.func16 rfl 132 rfl rfl [(0, _), (1, _), (2, _)] ⟨rfl, rfl, rfl, trivial⟩ ?_; intro a E
  refine wp_seq ?_
  refine region_plain (n := 2) [(0, .e), (1, .p)] rfl rfl ?_
  refine Run.box (cs := [.int .i64 (G : Int), .int .i64 (ev : Int), .int .i64 lim]) rfl rfl E S rfl rfl rfl rfl ?_; clear E a S; intro b1 w a E S B_; clear B_
  refine Run.assign rfl E rfl rfl rfl ?_; clear E a; intro a E
  refine Run.nil ?_
  refine then_n ?_
  refine wp_seq ?_
  refine wp_seq ?_
  refine region_plain (n := 2) [(0, .e), (1, .p)] rfl rfl ?_
  refine Run.call (args := []) rfl rfl E rfl rfl Try.func68 nm68 rfl rfl (anchor19) ?_; rintro e_ w ⟨rfl, B_⟩; refine ⟨_, rfl, fun _ => B_, ?_⟩; clear E a; replace S := S.bel B_; intro a E
  clear B_
  refine Run.not rfl E rfl rfl rfl rfl ?_; clear E a; intro a E
  refine Run.nil ?_
  refine then_n ?_
  refine cond_F E rfl ?_
  refine wp_skip ?_
  refine then_n ?_
  refine wp_seq ?_
  refine wp_seq ?_
  refine region_plain (n := 8) [(0, .l), (1, .e), (2, .p), (3, .p), (4, .p), (5, .p), (6, .p), (7, .p)] rfl rfl ?_
  refine Run.loadN (cs := [.int .i64 (G : Int), .int .i64 (ev : Int), .int .i64 lim]) rfl rfl E S rfl rfl rfl ag102 rfl (fun _ s => objAll s 0 rfl) ?_; clear E a; intro a E
  refine Run.call (args := [.agg #[.int .i64 (G : Int), .int .i64 (ev : Int), .int .i64 lim]]) rfl rfl E rfl rfl Try.func69 nm69 rfl rfl (right19_ok hG he0 he1 hl0 hl1) ?_; rintro e_ w ⟨rfl, B_⟩; refine ⟨_, rfl, fun _ => B_, ?_⟩; clear E a; replace S := S.bel B_; intro a E
  clear B_
  refine Run.not rfl E rfl rfl rfl rfl ?_; clear E a; intro a E
  refine Run.move rfl E rfl rfl rfl ?_; clear E a; intro a E
  refine Run.move rfl E rfl rfl rfl ?_; clear E a; intro a E
  refine Run.len rfl E rfl rfl rfl Try.underlying50 ?_; clear E a; intro a E
  refine Run.gtr rfl E rfl rfl rfl rfl (decide_eq_false (by omega)) ?_; clear E a; intro a E
  refine Run.pickF rfl E rfl rfl rfl rfl ?_; clear E a; intro a E
  refine Run.nil ?_
  refine then_n ?_
  refine cond_F E rfl ?_
  refine wp_skip ?_
  refine then_n ?_
  refine wp_seq ?_
  refine region_plain (n := 8) [(0, .l), (1, .p), (2, .e), (3, .p), (4, .p), (5, .p), (6, .p), (7, .p)] rfl rfl ?_
  refine Run.loadN (cs := [.int .i64 (G : Int), .int .i64 (ev : Int), .int .i64 lim]) rfl rfl E S rfl rfl rfl ag102 rfl (fun _ s => objAll s 0 rfl) ?_; clear E a; intro a E
  refine Run.move rfl E rfl rfl rfl ?_; clear E a; intro a E
  refine Run.call (args := [.agg #[.int .i64 (G : Int), .int .i64 (ev : Int), .int .i64 lim], .slice L l.length cL]) rfl rfl E rfl rfl Try.func70 nm70 rfl rfl (taped19_walk hG he0 he1 hl0 hl1 (hL.bel S.belT) (fun x hx => ⟨(hL2 x hx).1.bel S.belT, (hL2 x hx).2⟩) hll hts) ?_; rintro e_ w ⟨g, A, c, B, d, C, e, O, cO, own, hown, rfl, S_⟩; refine ⟨_, rfl, (fun _ => S_.belT), ?_⟩; clear E a; intro a E
  replace S : St _ _ _ [.obj _ _ [_, _, _, _, _, _, _, _, _, _, _, _, _], _, _, _, _, _, .obj _ _ [_, _, _]] := St.call (A := []) (R := [_]) S S_; clear S_
  have hol : own.length = ts.length := by rw [← hown, List.length_map]
  refine Run.move rfl E rfl rfl rfl ?_; clear E a; intro a E
  refine Run.extract rfl E rfl rfl rfl rfl ?_; clear E a; intro a E
  refine Run.extract rfl E rfl rfl rfl rfl ?_; clear E a; intro a E
  refine Run.assign rfl E rfl rfl rfl ?_; clear E a; intro a E
  refine Run.assign rfl E rfl rfl rfl ?_; clear E a; intro a E
  refine Run.nil ?_
  refine then_n ?_
  refine wp_seq ?_
  refine wp_seq ?_
  refine region_plain (n := 9) [(0, .p), (1, .p), (2, .p), (3, .p), (4, .e), (5, .p), (6, .p), (7, .p), (8, .p)] rfl rfl ?_
  refine Run.move rfl E rfl rfl rfl ?_; clear E a; intro a E
  refine Run.bin (v := .bool false) rfl E rfl rfl rfl rfl (fun _ => by kernel_rfl) ?_; clear E a; intro a E
  refine Run.move rfl E rfl rfl rfl ?_; clear E a; intro a E
  refine Run.move rfl E rfl rfl rfl ?_; clear E a; intro a E
  refine Run.call (args := [.pointer (some ⟨g, 0, none⟩)]) rfl rfl E rfl rfl Try.func38 nm38 rfl rfl (tape_len (St.holdsL (A := [.obj g 128 [.int .i64 (G : Int), .int .i64 (ev : Int), .int .i64 lim, .slice A ((tbytes G ev ts).length) c, .slice B ((tstarts G ev ts).length) d, .int .i64 ((lastS ts).kind), .int .i64 ((lastS ts).node), .int .i64 ((lastS ts).phase), .int .i64 ((lastS ts).pos), .int .i64 ((lastS ts).start), .int .i64 ((lastS ts).depth), .int .i64 ((lastS ts).org), .slice C ((lastS ts).caps.length) e], .row (.slice A ((tbytes G ev ts).length) c) 5 1 ((tbytes G ev ts).length) (u8s (tbytes G ev ts)), .row (.slice B ((tstarts G ev ts).length) d) 3 1 ((tstarts G ev ts).length) (ints (tstarts G ev ts)), .row (.slice C ((lastS ts).caps.length) e) 3 1 ((lastS ts).caps.length) (ints (lastS ts).caps)]) (R := [_, _, _]) (S.sel [0, 1, 2, 3, 4, 5, 6] ([.obj g 128 [.int .i64 (G : Int), .int .i64 (ev : Int), .int .i64 lim, .slice A ((tbytes G ev ts).length) c, .slice B ((tstarts G ev ts).length) d, .int .i64 ((lastS ts).kind), .int .i64 ((lastS ts).node), .int .i64 ((lastS ts).phase), .int .i64 ((lastS ts).pos), .int .i64 ((lastS ts).start), .int .i64 ((lastS ts).depth), .int .i64 ((lastS ts).org), .slice C ((lastS ts).caps.length) e], .row (.slice A ((tbytes G ev ts).length) c) 5 1 ((tbytes G ev ts).length) (u8s (tbytes G ev ts)), .row (.slice B ((tstarts G ev ts).length) d) 3 1 ((tstarts G ev ts).length) (ints (tstarts G ev ts)), .row (.slice C ((lastS ts).caps.length) e) 3 1 ((lastS ts).caps.length) (ints (lastS ts).caps)] ++ [_, _, _]) rfl rfl))) ?_; rintro e_ w ⟨rfl, B_⟩; refine ⟨_, rfl, fun _ => B_, ?_⟩; clear E a; replace S := S.bel B_; intro a E
  clear B_
  refine Run.move rfl E rfl rfl rfl ?_; clear E a; intro a E
  refine Run.len rfl E rfl rfl rfl Try.underlying50 ?_; clear E a; intro a E
  refine Run.nei rfl E rfl rfl rfl rfl (decide_eq_false (by rw [tstarts_len]; omega)) ?_; clear E a; intro a E
  refine Run.pickF rfl E rfl rfl rfl rfl ?_; clear E a; intro a E
  refine Run.nil ?_
  refine then_n ?_
  refine cond_F E rfl ?_
  refine wp_skip ?_
  refine then_n ?_
  refine wp_seq ?_
  refine region_plain (n := 11) [(0, .p), (1, .p), (2, .e), (3, .p), (4, .p), (5, .p), (6, .p), (7, .e), (8, .l), (9, .p), (10, .p)] rfl rfl ?_
  refine Run.move rfl E rfl rfl rfl ?_; clear E a; intro a E
  refine Run.move rfl E rfl rfl rfl ?_; clear E a; intro a E
  refine Run.call (args := [.pointer (some ⟨g, 0, none⟩), .int .i64 (k : Int)]) rfl rfl E rfl rfl Try.func41 nm41 rfl rfl (by have h_ := tat_ok (k := k) (t := t) (St.holdsL (A := [.obj g 128 [.int .i64 (G : Int), .int .i64 (ev : Int), .int .i64 lim, .slice A ((tbytes G ev ts).length) c, .slice B ((tstarts G ev ts).length) d, .int .i64 ((lastS ts).kind), .int .i64 ((lastS ts).node), .int .i64 ((lastS ts).phase), .int .i64 ((lastS ts).pos), .int .i64 ((lastS ts).start), .int .i64 ((lastS ts).depth), .int .i64 ((lastS ts).org), .slice C ((lastS ts).caps.length) e], .row (.slice A ((tbytes G ev ts).length) c) 5 1 ((tbytes G ev ts).length) (u8s (tbytes G ev ts)), .row (.slice B ((tstarts G ev ts).length) d) 3 1 ((tstarts G ev ts).length) (ints (tstarts G ev ts)), .row (.slice C ((lastS ts).caps.length) e) 3 1 ((lastS ts).caps.length) (ints (lastS ts).caps)]) (R := [_, _, _]) (S.sel [0, 1, 2, 3, 4, 5, 6] ([.obj g 128 [.int .i64 (G : Int), .int .i64 (ev : Int), .int .i64 lim, .slice A ((tbytes G ev ts).length) c, .slice B ((tstarts G ev ts).length) d, .int .i64 ((lastS ts).kind), .int .i64 ((lastS ts).node), .int .i64 ((lastS ts).phase), .int .i64 ((lastS ts).pos), .int .i64 ((lastS ts).start), .int .i64 ((lastS ts).depth), .int .i64 ((lastS ts).org), .slice C ((lastS ts).caps.length) e], .row (.slice A ((tbytes G ev ts).length) c) 5 1 ((tbytes G ev ts).length) (u8s (tbytes G ev ts)), .row (.slice B ((tstarts G ev ts).length) d) 3 1 ((tstarts G ev ts).length) (ints (tstarts G ev ts)), .row (.slice C ((lastS ts).caps.length) e) 3 1 ((lastS ts).caps.length) (ints (lastS ts).caps)] ++ [_, _, _]) rfl rfl)) hok hlim hl1 ht; rw [← hm] at h_; exact h_) ?_; rintro e_ w ⟨D2, e3, rfl, S_⟩; refine ⟨_, rfl, (fun _ => S_.belT), ?_⟩; clear E a; intro a E
  replace S : St _ _ _ [_, .obj _ _ [_, _, _, _, _, _, _, _, _, _, _, _, _], _, _, _, _, _, .obj _ _ [_, _, _]] := St.call (A := []) (R := [_, _, _, _, _, _, _]) S S_; clear S_
  refine Run.move rfl E rfl rfl rfl ?_; clear E a; intro a E
  refine Run.extract rfl E rfl rfl rfl rfl ?_; clear E a; intro a E
  refine Run.extract rfl E rfl rfl rfl rfl ?_; clear E a; intro a E
  refine Run.extract rfl E rfl rfl rfl rfl ?_; clear E a; intro a E
  refine Run.alloc rfl rfl E S rfl rfl z34 rfl ?_; clear E a S; intro b4 w a E S B_; clear B_
  refine Run.store (news := [.int .i64 t.kind, .int .i64 t.node, .int .i64 t.phase, .int .i64 t.pos, .int .i64 t.start, .int .i64 t.depth, .int .i64 t.org, .slice D2 t.caps.length e3]) (cs' := [_, _, _, _, _, _, _, _]) (hp' := [_, _, _, _, _, _, _, _, _]) 0 rfl E S rfl rfl rfl rfl rfl sz34 rfl rfl rfl rfl ?_; clear S; intro w S
  refine Run.assign rfl E rfl rfl rfl ?_; clear E a; intro a E
  refine Run.assign rfl E rfl rfl rfl ?_; clear E a; intro a E
  refine Run.nil ?_
  refine then_n ?_
  refine wp_seq ?_
  refine region_plain (n := 8) [(0, .p), (1, .p), (2, .e), (3, .p), (4, .p), (5, .p), (6, .p), (7, .p)] rfl rfl ?_
  refine Run.move rfl E rfl rfl rfl ?_; clear E a; intro a E
  refine Run.move rfl E rfl rfl rfl ?_; clear E a; intro a E
  refine Run.call (args := [.pointer (some ⟨g, 0, none⟩), .int .i64 (k : Int)]) rfl rfl E rfl rfl Try.func71 nm71 rfl rfl (by have h_ := tblock_ok (St.holdsL (A := [.obj g 128 [.int .i64 (G : Int), .int .i64 (ev : Int), .int .i64 lim, .slice A ((tbytes G ev ts).length) c, .slice B ((tstarts G ev ts).length) d, .int .i64 ((lastS ts).kind), .int .i64 ((lastS ts).node), .int .i64 ((lastS ts).phase), .int .i64 ((lastS ts).pos), .int .i64 ((lastS ts).start), .int .i64 ((lastS ts).depth), .int .i64 ((lastS ts).org), .slice C ((lastS ts).caps.length) e], .row (.slice A ((tbytes G ev ts).length) c) 5 1 ((tbytes G ev ts).length) (u8s (tbytes G ev ts)), .row (.slice B ((tstarts G ev ts).length) d) 3 1 ((tstarts G ev ts).length) (ints (tstarts G ev ts)), .row (.slice C ((lastS ts).caps.length) e) 3 1 ((lastS ts).caps.length) (ints (lastS ts).caps)]) (R := [_, _, _, _, _]) (S.sel [2, 3, 4, 5, 0, 1, 6, 7, 8] ([.obj g 128 [.int .i64 (G : Int), .int .i64 (ev : Int), .int .i64 lim, .slice A ((tbytes G ev ts).length) c, .slice B ((tstarts G ev ts).length) d, .int .i64 ((lastS ts).kind), .int .i64 ((lastS ts).node), .int .i64 ((lastS ts).phase), .int .i64 ((lastS ts).pos), .int .i64 ((lastS ts).start), .int .i64 ((lastS ts).depth), .int .i64 ((lastS ts).org), .slice C ((lastS ts).caps.length) e], .row (.slice A ((tbytes G ev ts).length) c) 5 1 ((tbytes G ev ts).length) (u8s (tbytes G ev ts)), .row (.slice B ((tstarts G ev ts).length) d) 3 1 ((tstarts G ev ts).length) (ints (tstarts G ev ts)), .row (.slice C ((lastS ts).caps.length) e) 3 1 ((lastS ts).caps.length) (ints (lastS ts).caps)] ++ [_, _, _, _, _]) rfl rfl)) hok hlim hl1 hkt; rw [← hm] at h_; exact h_) ?_; rintro e_ w ⟨O2, cO2, l2, hl2, rfl, S_⟩; refine ⟨_, rfl, (fun _ => S_.belT), ?_⟩; clear E a; intro a E
  replace S : St _ _ _ [_, _, .obj _ _ [_, _, _, _, _, _, _, _], _, .obj _ _ [_, _, _, _, _, _, _, _, _, _, _, _, _], _, _, _, _, _, .obj _ _ [_, _, _]] := St.call (A := []) (R := [_, _, _, _, _, _, _, _, _]) S S_; clear S_
  have hll2 : l2.length = m + 1 := by have := congrArg List.length hl2; rw [List.length_map, List.length_take, List.length_drop] at this; omega
  refine Run.move rfl E rfl rfl rfl ?_; clear E a; intro a E
  refine Run.extract rfl E rfl rfl rfl rfl ?_; clear E a; intro a E
  refine Run.extract rfl E rfl rfl rfl rfl ?_; clear E a; intro a E
  refine Run.assign rfl E rfl rfl rfl ?_; clear E a; intro a E
  refine Run.assign rfl E rfl rfl rfl ?_; clear E a; intro a E
  refine Run.nil ?_
  refine then_n ?_
  refine wp_seq ?_
  refine wp_seq ?_
  refine region_plain (n := 8) [(0, .p), (1, .p), (2, .p), (3, .p), (4, .p), (5, .p), (6, .p), (7, .p)] rfl rfl ?_
  refine Run.move rfl E rfl rfl rfl ?_; clear E a; intro a E
  refine Run.lss rfl E rfl rfl rfl rfl (decide_eq_false (by omega)) ?_; clear E a; intro a E
  refine Run.move rfl E rfl rfl rfl ?_; clear E a; intro a E
  refine Run.move rfl E rfl rfl rfl ?_; clear E a; intro a E
  refine Run.move rfl E rfl rfl rfl ?_; clear E a; intro a E
  refine Run.len rfl E rfl rfl rfl Try.underlying50 ?_; clear E a; intro a E
  refine Run.geq rfl E rfl rfl rfl rfl (decide_eq_false (by omega)) ?_; clear E a; intro a E
  refine Run.pickF rfl E rfl rfl rfl rfl ?_; clear E a; intro a E
  refine Run.nil ?_
  refine then_n ?_
  refine cond_F E rfl ?_
  refine wp_skip ?_
  refine then_n ?_
  refine wp_seq ?_
  refine wp_seq ?_
  refine region_drawS (n := 30) [(0, .p), (1, .p), (2, .p), (3, .p), (4, .p), (5, .p), (6, .p), (7, .p), (8, .p), (9, .p), (10, .t), (11, .p), (12, .p), (13, .p), (14, .p), (15, .p), (16, .p), (17, .p), (18, .p), (19, .p), (20, .p), (21, .p), (23, .p), (24, .p), (25, .p), (22, .t), (26, .t), (27, .e), (28, .p), (29, .p)] [0, 1, 3, 7, 15, 31, 63, 127, 127, 127, 639, 1919, 3967, 8191, 16383, 32767, 65535, 131071, 65535, 524287, 1048575, 2097151, 4194303, 4194303, 4194303, 29360127, 62914559, 134217727, 268435455, 536870911] S mixed rfl rfl (by kernel_rfl) (fun _ _ _ _ _ h => h) ?_; clear S; intro w S B_; clear B_
  refine Run.move rfl E rfl rfl rfl ?_; clear E a; intro a E
  refine Run.nei rfl E rfl rfl rfl rfl (b := false) (by decide) ?_; clear E a; intro a E
  refine Run.move rfl E rfl rfl rfl ?_; clear E a; intro a E
  refine Run.move rfl E rfl rfl rfl ?_; clear E a; intro a E
  refine Run.nei rfl E rfl rfl rfl rfl (b := false) (by decide) ?_; clear E a; intro a E
  refine Run.pickF rfl E rfl rfl rfl rfl ?_; clear E a; intro a E
  refine Run.move rfl E rfl rfl rfl ?_; clear E a; intro a E
  refine Run.move rfl E rfl rfl rfl ?_; clear E a; intro a E
  refine Run.move rfl E rfl rfl rfl ?_; clear E a; intro a E
  refine Run.fieldAddr rfl E rfl rfl rfl fo102_1 (rfl) ?_; clear E a; intro a E
  refine Run.load1 rfl rfl E S rfl rfl rfl one3 (fun _ s => s.objCell 10 1 rfl rfl) ?_; clear E a; intro a E
  refine Run.rem rfl E rfl rfl rfl rfl (by omega) (q := (m : Int)) ((rem_nn _ _).trans (by rw [hm])) ?_; clear E a; intro a E
  refine Run.add rfl E rfl rfl rfl rfl (i64_ok (by omega)) ?_; clear E a; intro a E
  refine Run.nei rfl E rfl rfl rfl rfl (decide_eq_false (fun h => h rfl)) ?_; clear E a; intro a E
  refine Run.pickF rfl E rfl rfl rfl rfl ?_; clear E a; intro a E
  refine Run.move rfl E rfl rfl rfl ?_; clear E a; intro a E
  refine Run.move rfl E rfl rfl rfl ?_; clear E a; intro a E
  refine Run.len rfl E rfl rfl rfl Try.underlying50 ?_; clear E a; intro a E
  refine Run.move rfl E rfl rfl rfl ?_; clear E a; intro a E
  refine Run.nei rfl E rfl rfl rfl rfl (decide_eq_false (by omega)) ?_; clear E a; intro a E
  refine Run.pickF rfl E rfl rfl rfl rfl ?_; clear E a; intro a E
  refine Run.move rfl E rfl rfl rfl ?_; clear E a; intro a E
  refine Run.move rfl E rfl rfl rfl ?_; clear E a; intro a E
  refine Run.move rfl E rfl rfl rfl ?_; clear E a; intro a E
  obtain ⟨y, hy, hys⟩ := own_get hown ht
  have hyl := (List.getElem?_eq_some_iff.1 hy).1
  have hyc : y.s.caps.length = t.caps.length := by rw [hys]
  obtain ⟨bO, rfl⟩ := S.rowAddr 8 rfl (by omega)
  refine Run.indexAddr rfl E rfl rfl rfl rfl Try.underlying50 sz34 (by omega) (ix_at (m' := k) (o := k * 8) (by omega) rfl) ?_; clear E a; intro a E
  refine Run.loadN (cs := [.int .i64 t.kind, .int .i64 t.node, .int .i64 t.phase, .int .i64 t.pos, .int .i64 t.start, .int .i64 t.depth, .int .i64 t.org, .slice D2 t.caps.length e3]) rfl rfl E S rfl rfl rfl ag34 rfl (fun _ s => objAll s 2 rfl) ?_; clear E a; intro a E
  refine Run.loadN (cs := [.int .i64 y.s.kind, .int .i64 y.s.node, .int .i64 y.s.phase, .int .i64 y.s.pos, .int .i64 y.s.start, .int .i64 y.s.depth, .int .i64 y.s.org, .slice y.A y.s.caps.length y.c]) rfl rfl E S rfl rfl rfl ag34 rfl (fun _ s_ => rowAt s_ 8 _ _ rfl (stams_get hy)) ?_; clear E a; intro a E
  refine Run.call (args := [.agg #[.int .i64 t.kind, .int .i64 t.node, .int .i64 t.phase, .int .i64 t.pos, .int .i64 t.start, .int .i64 t.depth, .int .i64 t.org, .slice D2 t.caps.length e3], .agg #[.int .i64 y.s.kind, .int .i64 y.s.node, .int .i64 y.s.phase, .int .i64 y.s.pos, .int .i64 y.s.start, .int .i64 y.s.depth, .int .i64 y.s.org, .slice y.A y.s.caps.length y.c]]) rfl rfl E rfl rfl Try.func42 nm42 rfl rfl (same_walk (s := t) (t := y.s) (S.rd 3 rfl) (S.rowsRd (q := y.irow) 9 rfl (List.mem_map.2 ⟨y, List.mem_of_getElem? hy, rfl⟩)) (by omega)) ?_; rintro e_ w ⟨rfl, B_⟩; refine ⟨_, rfl, fun _ => B_, ?_⟩; clear E a; replace S := S.bel B_; intro a E
  clear B_
  replace E := E.setb 108 rfl (decide_eq_true hys.symm)
  refine Run.not rfl E rfl rfl rfl rfl ?_; clear E a; intro a E
  refine Run.pickF rfl E rfl rfl rfl rfl ?_; clear E a; intro a E
  refine Run.nil ?_
  refine then_n ?_
  refine cond_F E rfl ?_
  refine wp_skip ?_
  refine then_n ?_
  refine wp_seq ?_
  refine wp_seq ?_
  refine region_plain (n := 3) [(0, .p), (1, .p), (2, .p)] rfl rfl ?_
  refine Run.move rfl E rfl rfl rfl ?_; clear E a; intro a E
  refine Run.len rfl E rfl rfl rfl Try.underlying50 ?_; clear E a; intro a E
  refine Run.move rfl E rfl rfl rfl ?_; clear E a; intro a E
  refine Run.nil ?_
  refine then_n ?_
  refine wp_block ?_
  refine wp_loop_ghost (fun n_ a w => ∃ i : Nat, l2.length - i = n_ ∧ Env 132 [(2, .int .i64 (k : Int)), (8, .slice (some ⟨bO, 0, none⟩) own.length cO), (10, .int .i64 ((m + 1 : Nat) : Int)), (12, .slice O2 l2.length cO2), (112, .int .i64 (l2.length : Int)), (113, .int .i64 (i : Int))] a ∧ St _ _ w [.row (.slice O2 l2.length cO2) 34 8 l2.length (stams l2), .rows (l2.map StaM.irow), .obj b4 34 [.int .i64 t.kind, .int .i64 t.node, .int .i64 t.phase, .int .i64 t.pos, .int .i64 t.start, .int .i64 t.depth, .int .i64 t.org, .slice D2 t.caps.length e3], .row (.slice D2 t.caps.length e3) 3 1 t.caps.length (ints t.caps), .obj g 128 [.int .i64 (G : Int), .int .i64 (ev : Int), .int .i64 lim, .slice A ((tbytes G ev ts).length) c, .slice B ((tstarts G ev ts).length) d, .int .i64 ((lastS ts).kind), .int .i64 ((lastS ts).node), .int .i64 ((lastS ts).phase), .int .i64 ((lastS ts).pos), .int .i64 ((lastS ts).start), .int .i64 ((lastS ts).depth), .int .i64 ((lastS ts).org), .slice C ((lastS ts).caps.length) e], .row (.slice A ((tbytes G ev ts).length) c) 5 1 ((tbytes G ev ts).length) (u8s (tbytes G ev ts)), .row (.slice B ((tstarts G ev ts).length) d) 3 1 ((tstarts G ev ts).length) (ints (tstarts G ev ts)), .row (.slice C ((lastS ts).caps.length) e) 3 1 ((lastS ts).caps.length) (ints (lastS ts).caps), .row (.slice (some ⟨bO, 0, none⟩) own.length cO) 34 8 own.length (stams own), .rows (own.map StaM.irow), .obj b1 102 [.int .i64 (G : Int), .int .i64 (ev : Int), .int .i64 lim]] ∧ (i ≤ l2.length)) _ ⟨0, rfl, E.keeps [(2, _), (8, _), (10, _), (12, _), (112, _), (113, _)] ⟨rfl, rfl, rfl, rfl, rfl, rfl, trivial⟩, S, Nat.zero_le _⟩ ?_
  clear E a S
  rintro n_ a w ⟨i, rfl, E, S, hi⟩
  refine wp_seq ?_
  refine region_plain (n := 1) [(0, .p)] rfl rfl ?_
  by_cases hlt : i < l2.length
  · skip
    refine Run.lss rfl E rfl rfl rfl rfl (decide_eq_true (by omega)) ?_; clear E a; intro a E
    refine Run.nil ?_
    refine then_n ?_
    refine wp_seq ?_
    refine cond_T E rfl ?_
    refine wp_skip ?_
    refine then_n ?_
    refine wp_seq ?_
    refine wp_block ?_
    refine wp_seq ?_
    refine region_plain (n := 2) [(0, .p), (1, .p)] rfl rfl ?_
    refine Run.move rfl E rfl rfl rfl ?_; clear E a; intro a E
    refine Run.assign rfl E rfl rfl rfl ?_; clear E a; intro a E
    refine Run.nil ?_
    refine then_n ?_
    refine wp_seq ?_
    refine region_drawS (n := 15) [(0, .p), (1, .p), (2, .p), (4, .p), (5, .p), (6, .p), (7, .p), (8, .p), (9, .p), (10, .p), (11, .p), (3, .t), (12, .t), (13, .e), (14, .p)] [0, 0, 3, 7, 0, 0, 0, 96, 224, 0, 992, 2032, 4080, 8191, 16383] S mixed rfl rfl (by kernel_rfl) (fun _ _ _ _ _ h => h) ?_; clear S; intro w S B_; clear B_
    refine Run.move rfl E rfl rfl rfl ?_; clear E a; intro a E
    refine Run.move rfl E rfl rfl rfl ?_; clear E a; intro a E
    obtain ⟨z, hz⟩ : ∃ z, l2[i]? = some z := ⟨_, List.getElem?_eq_getElem hlt⟩
    have hzt := sub_get hl2 hz
    obtain ⟨y2, hy2, hys2⟩ := own_get hown hzt
    have hyl2 := (List.getElem?_eq_some_iff.1 hy2).1
    have hzc := right_capl (hok.right _ (List.mem_of_getElem? hzt))
    obtain ⟨bO2, rfl⟩ := S.rowAddr 0 rfl (by omega)
    refine Run.indexAddr rfl E rfl rfl rfl rfl Try.underlying50 sz34 (by omega) (ix_at (m' := i) (o := i * 8) (by omega) rfl) ?_; clear E a; intro a E
    refine Run.move rfl E rfl rfl rfl ?_; clear E a; intro a E
    refine Run.move rfl E rfl rfl rfl ?_; clear E a; intro a E
    refine Run.move rfl E rfl rfl rfl ?_; clear E a; intro a E
    refine Run.sub rfl E rfl rfl rfl rfl (i64_ok (by omega)) ?_; clear E a; intro a E
    refine Run.add rfl E rfl rfl rfl rfl (i64_ok (by omega)) ?_; clear E a; intro a E
    refine Run.move rfl E rfl rfl rfl ?_; clear E a; intro a E
    refine Run.add rfl E rfl rfl rfl rfl (i64_ok (by omega)) ?_; clear E a; intro a E
    refine Run.indexAddr rfl E rfl rfl rfl rfl Try.underlying50 sz34 (by omega) (ix_at (m' := (k - m + i)) (o := (k - m + i) * 8) (by omega) rfl) ?_; clear E a; intro a E
    refine Run.loadN (cs := [.int .i64 z.s.kind, .int .i64 z.s.node, .int .i64 z.s.phase, .int .i64 z.s.pos, .int .i64 z.s.start, .int .i64 z.s.depth, .int .i64 z.s.org, .slice z.A z.s.caps.length z.c]) rfl rfl E S rfl rfl rfl ag34 rfl (fun _ s_ => rowAt s_ 0 _ _ rfl (stams_get hz)) ?_; clear E a; intro a E
    refine Run.loadN (cs := [.int .i64 y2.s.kind, .int .i64 y2.s.node, .int .i64 y2.s.phase, .int .i64 y2.s.pos, .int .i64 y2.s.start, .int .i64 y2.s.depth, .int .i64 y2.s.org, .slice y2.A y2.s.caps.length y2.c]) rfl rfl E S rfl rfl rfl ag34 rfl (fun _ s_ => rowAt s_ 8 _ _ rfl (stams_get hy2)) ?_; clear E a; intro a E
    refine Run.call (args := [.agg #[.int .i64 z.s.kind, .int .i64 z.s.node, .int .i64 z.s.phase, .int .i64 z.s.pos, .int .i64 z.s.start, .int .i64 z.s.depth, .int .i64 z.s.org, .slice z.A z.s.caps.length z.c], .agg #[.int .i64 y2.s.kind, .int .i64 y2.s.node, .int .i64 y2.s.phase, .int .i64 y2.s.pos, .int .i64 y2.s.start, .int .i64 y2.s.depth, .int .i64 y2.s.org, .slice y2.A y2.s.caps.length y2.c]]) rfl rfl E rfl rfl Try.func42 nm42 rfl rfl (same_walk (s := z.s) (t := y2.s) (S.rowsRd (q := z.irow) 1 rfl (List.mem_map.2 ⟨z, List.mem_of_getElem? hz, rfl⟩)) (S.rowsRd (q := y2.irow) 9 rfl (List.mem_map.2 ⟨y2, List.mem_of_getElem? hy2, rfl⟩)) (by omega)) ?_; rintro e_ w ⟨rfl, B_⟩; refine ⟨_, rfl, fun _ => B_, ?_⟩; clear E a; replace S := S.bel B_; intro a E
    clear B_
    replace E := E.setb 129 rfl (decide_eq_true hys2.symm)
    refine Run.not rfl E rfl rfl rfl rfl ?_; clear E a; intro a E
    refine Run.nil ?_
    refine then_n ?_
    refine cond_F E rfl ?_
    refine wp_skip ?_
    refine blk_n ?_
    refine then_n ?_
    refine region_plain (n := 2) [(0, .p), (1, .p)] rfl rfl ?_
    refine Run.add rfl E rfl rfl rfl rfl (i64_ok (by omega)) ?_; clear E a; intro a E
    refine Run.move rfl E rfl rfl rfl ?_; clear E a; intro a E
    refine Run.nil ?_
    refine then_n ?_
    replace E := E.setv 113 rfl (show Value.int .i64 ((i : Int) + 1) = .int .i64 ((i + 1 : Nat) : Int) from rfl)
    exact ⟨_, (by omega), (i + 1), rfl, E.keeps [(2, _), (8, _), (10, _), (12, _), (112, _), (113, _)] ⟨rfl, rfl, rfl, rfl, rfl, rfl, trivial⟩, S, (by omega)⟩
  · skip
    refine Run.lss rfl E rfl rfl rfl rfl (decide_eq_false (by omega)) ?_; clear E a; intro a E
    refine Run.nil ?_
    refine then_n ?_
    refine wp_seq ?_
    refine cond_F E rfl ?_
    refine wp_exit ?_
    refine then_x ?_
    refine then_x ?_
    refine blk_x ?_
    refine then_n ?_
    refine wp_seq ?_
    refine region_plain (n := 1) [(0, .p)] rfl rfl ?_
    refine Run.assign rfl E rfl rfl rfl ?_; clear E a; intro a E
    refine Run.nil ?_
    refine then_n ?_
    refine wp_ret ?_
    exact ret1 E Try.results16 rfl ⟨rfl, S.belT⟩

theorem tapeTells_walk (hL : Rd w0 L l.length 8 (stams l)) (hL2 : ∀ x ∈ l, x.ok w0) : Calls Try.prog 16 [.agg #[.int .i64 gr, .int .i64 ev0, .int .i64 lim], .slice L l.length cL, .int .i64 k0].toArray w0 (fun r w' => r = .returned (.bool true) ∧ Bel w0 w') := by
  by_cases hn : (0 ≤ gr ∧ gr ≤ 99) ∧ (1 ≤ ev0 ∧ ev0 ≤ 1024) ∧ (0 ≤ lim ∧ lim ≤ 16777216)
  · obtain ⟨⟨h1, h2⟩, ⟨h3, h4⟩, h5, h6⟩ := hn
    obtain ⟨G, rfl⟩ : ∃ G : Nat, gr = (G : Int) := ⟨gr.toNat, by omega⟩
    obtain ⟨ev, rfl⟩ : ∃ ev : Nat, ev0 = (ev : Int) := ⟨ev0.toNat, by omega⟩
    have hG : G ≤ 99 := by omega
    have he0 : 1 ≤ ev := by omega
    have he1 : ev ≤ 1024 := by omega
    by_cases hll : (200 : Int) < (l.length : Int)
    · exact ttells_long hG he0 he1 h5 h6 hll
    · have hll2 : l.length ≤ 200 := by omega
      by_cases h7 : k0 < 0
      · exact ttells_low hG he0 he1 h5 h6 hL hL2 hll2 rfl h7
      · by_cases h8 : ((takes G ev lim (l.map StaM.s)).length : Int) ≤ k0
        · exact ttells_high hG he0 he1 h5 h6 hL hL2 hll2 rfl (by omega) h8
        · obtain ⟨k, rfl⟩ : ∃ k : Nat, k0 = (k : Int) := ⟨k0.toNat, by omega⟩
          exact ttells_ok hG he0 he1 h5 h6 hL hL2 hll2 rfl (List.getElem?_eq_getElem (by omega))
  · exact ttells_bad hn

end
end Go.Proofs.Ytlcglefbhlhcpaa.K
