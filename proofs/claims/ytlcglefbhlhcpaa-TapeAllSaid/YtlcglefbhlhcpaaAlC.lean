/- TapeAll walked. -/
import Derived.Test.YtlcglefbhlhcpaaKg
import Derived.Test.YtlcglefbhlhcpaaAlA
import Derived.Test.YtlcglefbhlhcpaaTaC
namespace Go.Proofs.Ytlcglefbhlhcpaa.K
open Go.RowKit
set_option linter.unusedVariables false
set_option maxRecDepth 100000
set_option maxHeartbeats 400000

theorem St.headNot {F : List Nat} {w0 w : World} {c : Ck} {A R : List Ck} {b : Nat} (s : St F w0 w (c :: (A ++ R))) (hb : c.fp = [b]) : ∀ k ∈ fps A, k ∉ [b] := by
  intro k hk hm
  have h := s.nodup
  rw [show fps (c :: (A ++ R)) = c.fp ++ (fps A ++ fps R) by simp [fps], hb] at h
  exact (List.nodup_append.1 h).2.2 k hm k (List.mem_append_left _ hk) rfl

section
variable {w0 : World} {L : Option Addr} {cL : Nat} {l : List StaM} {G ev : Nat} {lim gr ev0 stop : Int} {ts : List Sta}

theorem tall_bad (hn : ¬ ((0 ≤ gr ∧ gr ≤ 99) ∧ (1 ≤ ev0 ∧ ev0 ≤ 1024) ∧ (0 ≤ lim ∧ lim ≤ 16777216))) : Calls Try.prog 19 [.agg #[.int .i64 gr, .int .i64 ev0, .int .i64 lim], .slice L l.length cL, .int .i64 stop].toArray w0 (fun r w' => r = .returned (.bool true) ∧ Bel w0 w') := by
  have S := St.nil [] w0
  refine fn_startM Try.func19 rfl 104 rfl rfl [(0, _), (1, _), (2, _)] ⟨rfl, rfl, rfl, trivial⟩ ?_; intro a E
  refine wp_seq ?_
  refine region_plain (n := 3) [(0, .e), (1, .e), (2, .e)] rfl rfl ?_
  refine Run.box (cs := [.int .i64 gr, .int .i64 ev0, .int .i64 lim]) rfl rfl E S rfl rfl rfl rfl ?_; clear E a S; intro b1 w a E S B_; clear B_
  refine Run.box (cs := [.int .i64 stop]) rfl rfl E S rfl rfl rfl rfl ?_; clear E a S; intro b2 w a E S B_; clear B_
  refine Run.alloc rfl rfl E S rfl rfl z4 rfl ?_; clear E a S; intro b3 w a E S B_; clear B_
  refine Run.nil ?_
  refine then_n ?_
  refine wp_seq ?_
  refine wp_seq ?_
  refine region_plain (n := 2) [(0, .e), (1, .p)] rfl rfl ?_
  refine Run.call (args := []) rfl rfl E rfl rfl Try.func68 nm68 rfl rfl (anchor19) ?_; rintro e_ w ⟨rfl, B_⟩; refine ⟨_, rfl, fun _ => B_, ?_⟩; clear E a; replace S := S.bel B_; intro a E
  clear B_
  refine Run.not rfl E rfl rfl rfl rfl ?_; clear E a; intro a E
  refine Run.nil ?_
  refine then_n ?_
  refine cond_F E rfl ?_
  refine wp_skip ?_
  refine then_n ?_
  refine wp_seq ?_
  refine wp_seq ?_
  refine region_plain (n := 8) [(0, .l), (1, .e), (2, .p), (3, .p), (4, .p), (5, .p), (6, .p), (7, .p)] rfl rfl ?_
  refine Run.loadN (cs := [.int .i64 gr, .int .i64 ev0, .int .i64 lim]) rfl rfl E S rfl rfl rfl ag102 rfl (fun _ s => objAll s 2 rfl) ?_; clear E a; intro a E
  refine Run.call (args := [.agg #[.int .i64 gr, .int .i64 ev0, .int .i64 lim]]) rfl rfl E rfl rfl Try.func69 nm69 rfl rfl (right19_bad hn) ?_; rintro e_ w ⟨rfl, B_⟩; refine ⟨_, rfl, fun _ => B_, ?_⟩; clear E a; replace S := S.bel B_; intro a E
  clear B_
  refine Run.not rfl E rfl rfl rfl rfl ?_; clear E a; intro a E
  refine Run.move rfl E rfl rfl rfl ?_; clear E a; intro a E
  refine Run.off rfl E rfl rfl ?_; clear E a; intro a E
  refine Run.off rfl E rfl rfl ?_; clear E a; intro a E
  refine Run.off rfl E rfl rfl ?_; clear E a; intro a E
  refine Run.pickT rfl E rfl rfl rfl rfl ?_; clear E a; intro a E
  refine Run.nil ?_
  refine then_n ?_
  refine cond_T E rfl ?_
  refine wp_seq ?_
  refine region_plain (n := 1) [(0, .l)] rfl rfl ?_
  refine Run.store (news := [.bool true]) (cs' := [_]) (hp' := [_, _, _]) 0 rfl E S rfl rfl rfl rfl rfl sz4 rfl rfl rfl rfl ?_; clear S; intro w S
  refine Run.nil ?_
  refine then_n ?_
  refine wp_ret ?_
  refine then_r ?_
  exact retMc E Try.results19 rfl (run_loadVarOne one4 (S.objCell 0 0 rfl rfl)) ⟨rfl, S.belT⟩

theorem tall_long (hG : G ≤ 99) (he0 : 1 ≤ ev) (he1 : ev ≤ 1024) (hl0 : 0 ≤ lim) (hl1 : lim ≤ 16777216) (hll : (200 : Int) < (l.length : Int)) : Calls Try.prog 19 [.agg #[.int .i64 (G : Int), .int .i64 (ev : Int), .int .i64 lim], .slice L l.length cL, .int .i64 stop].toArray w0 (fun r w' => r = .returned (.bool true) ∧ Bel w0 w') := by
  have S := St.nil [] w0
  refine fn_startM Try.func19 rfl 104 rfl rfl [(0, _), (1, _), (2, _)] ⟨rfl, rfl, rfl, trivial⟩ ?_; intro a E
  refine wp_seq ?_
  refine region_plain (n := 3) [(0, .e), (1, .e), (2, .e)] rfl rfl ?_
  refine Run.box (cs := [.int .i64 (G : Int), .int .i64 (ev : Int), .int .i64 lim]) rfl rfl E S rfl rfl rfl rfl ?_; clear E a S; intro b1 w a E S B_; clear B_
  refine Run.box (cs := [.int .i64 stop]) rfl rfl E S rfl rfl rfl rfl ?_; clear E a S; intro b2 w a E S B_; clear B_
  refine Run.alloc rfl rfl E S rfl rfl z4 rfl ?_; clear E a S; intro b3 w a E S B_; clear B_
  refine Run.nil ?_
  refine then_n ?_
  refine wp_seq ?_
  refine wp_seq ?_
  refine region_plain (n := 2) [(0, .e), (1, .p)] rfl rfl ?_
  refine Run.call (args := []) rfl rfl E rfl rfl Try.func68 nm68 rfl rfl (anchor19) ?_; rintro e_ w ⟨rfl, B_⟩; refine ⟨_, rfl, fun _ => B_, ?_⟩; clear E a; replace S := S.bel B_; intro a E
  clear B_
  refine Run.not rfl E rfl rfl rfl rfl ?_; clear E a; intro a E
  refine Run.nil ?_
  refine then_n ?_
  refine cond_F E rfl ?_
  refine wp_skip ?_
  refine then_n ?_
  refine wp_seq ?_
  refine wp_seq ?_
  refine region_plain (n := 8) [(0, .l), (1, .e), (2, .p), (3, .p), (4, .p), (5, .p), (6, .p), (7, .p)] rfl rfl ?_
  refine Run.loadN (cs := [.int .i64 (G : Int), .int .i64 (ev : Int), .int .i64 lim]) rfl rfl E S rfl rfl rfl ag102 rfl (fun _ s => objAll s 2 rfl) ?_; clear E a; intro a E
  refine Run.call (args := [.agg #[.int .i64 (G : Int), .int .i64 (ev : Int), .int .i64 lim]]) rfl rfl E rfl rfl Try.func69 nm69 rfl rfl (right19_ok hG he0 he1 hl0 hl1) ?_; rintro e_ w ⟨rfl, B_⟩; refine ⟨_, rfl, fun _ => B_, ?_⟩; clear E a; replace S := S.bel B_; intro a E
  clear B_
  refine Run.not rfl E rfl rfl rfl rfl ?_; clear E a; intro a E
  refine Run.move rfl E rfl rfl rfl ?_; clear E a; intro a E
  refine Run.move rfl E rfl rfl rfl ?_; clear E a; intro a E
  refine Run.len rfl E rfl rfl rfl Try.underlying50 ?_; clear E a; intro a E
  refine Run.gtr rfl E rfl rfl rfl rfl (decide_eq_true (by omega)) ?_; clear E a; intro a E
  refine Run.pickF rfl E rfl rfl rfl rfl ?_; clear E a; intro a E
  refine Run.nil ?_
  refine then_n ?_
  refine cond_T E rfl ?_
  refine wp_seq ?_
  refine region_plain (n := 1) [(0, .l)] rfl rfl ?_
  refine Run.store (news := [.bool true]) (cs' := [_]) (hp' := [_, _, _]) 0 rfl E S rfl rfl rfl rfl rfl sz4 rfl rfl rfl rfl ?_; clear S; intro w S
  refine Run.nil ?_
  refine then_n ?_
  refine wp_ret ?_
  refine then_r ?_
  exact retMc E Try.results19 rfl (run_loadVarOne one4 (S.objCell 0 0 rfl rfl)) ⟨rfl, S.belT⟩

set_option maxHeartbeats 4000000 in
theorem tall_ok (hG : G ≤ 99) (he0 : 1 ≤ ev) (he1 : ev ≤ 1024) (hl0 : 0 ≤ lim) (hl1 : lim ≤ 16777216) (hL : Rd w0 L l.length 8 (stams l)) (hL2 : ∀ x ∈ l, x.ok w0) (hll : l.length ≤ 200) (hts : ts = takes G ev lim (l.map StaM.s)) : Calls Try.prog 19 [.agg #[.int .i64 (G : Int), .int .i64 (ev : Int), .int .i64 lim], .slice L l.length cL, .int .i64 stop].toArray w0 (fun r w' => r = .returned (.bool true) ∧ Bel w0 w') := by
  have S := St.nil [] w0
  have hok : TapeOK G ev ts := by rw [hts]; exact takes_ok _ hG he0 he1 _
  have hlim : ((tbytes G ev ts).length : Int) ≤ lim := by rw [hts]; exact takes_lim hl0 _
  have htl : ts.length ≤ l.length := by have := takes_len G ev lim (l.map StaM.s); rw [← hts] at this; simpa using this
  obtain ⟨m1_, m2_, m3_⟩ := sat_le hok hlim hl1
  obtain ⟨bl, hbl⟩ : ∃ bl, bl = Sta.blank (2 * (G + 1)) := ⟨_, rfl⟩
  refine fn_startM Try.func19 rfl 104 rfl rfl [(0, _), (1, _), (2, _)] ⟨rfl, rfl, rfl, trivial⟩ ?_; intro a E
  refine wp_seq ?_
  refine region_plain (n := 3) [(0, .e), (1, .e), (2, .e)] rfl rfl ?_
  refine Run.box (cs := [.int .i64 (G : Int), .int .i64 (ev : Int), .int .i64 lim]) rfl rfl E S rfl rfl rfl rfl ?_; clear E a S; intro b1 w a E S B_; clear B_
  refine Run.box (cs := [.int .i64 stop]) rfl rfl E S rfl rfl rfl rfl ?_; clear E a S; intro b2 w a E S B_; clear B_
  refine Run.alloc rfl rfl E S rfl rfl z4 rfl ?_; clear E a S; intro b3 w a E S B_; clear B_
  refine Run.nil ?_
  refine then_n ?_
  refine wp_seq ?_
  refine wp_seq ?_
  refine region_plain (n := 2) [(0, .e), (1, .p)] rfl rfl ?_
  refine Run.call (args := []) rfl rfl E rfl rfl Try.func68 nm68 rfl rfl (anchor19) ?_; rintro e_ w ⟨rfl, B_⟩; refine ⟨_, rfl, fun _ => B_, ?_⟩; clear E a; replace S := S.bel B_; intro a E
  clear B_
  refine Run.not rfl E rfl rfl rfl rfl ?_; clear E a; intro a E
  refine Run.nil ?_
  refine then_n ?_
  refine cond_F E rfl ?_
  refine wp_skip ?_
  refine then_n ?_
  refine wp_seq ?_
  refine wp_seq ?_
  refine region_plain (n := 8) [(0, .l), (1, .e), (2, .p), (3, .p), (4, .p), (5, .p), (6, .p), (7, .p)] rfl rfl ?_
  refine Run.loadN (cs := [.int .i64 (G : Int), .int .i64 (ev : Int), .int .i64 lim]) rfl rfl E S rfl rfl rfl ag102 rfl (fun _ s => objAll s 2 rfl) ?_; clear E a; intro a E
  refine Run.call (args := [.agg #[.int .i64 (G : Int), .int .i64 (ev : Int), .int .i64 lim]]) rfl rfl E rfl rfl Try.func69 nm69 rfl rfl (right19_ok hG he0 he1 hl0 hl1) ?_; rintro e_ w ⟨rfl, B_⟩; refine ⟨_, rfl, fun _ => B_, ?_⟩; clear E a; replace S := S.bel B_; intro a E
  clear B_
  refine Run.not rfl E rfl rfl rfl rfl ?_; clear E a; intro a E
  refine Run.move rfl E rfl rfl rfl ?_; clear E a; intro a E
  refine Run.move rfl E rfl rfl rfl ?_; clear E a; intro a E
  refine Run.len rfl E rfl rfl rfl Try.underlying50 ?_; clear E a; intro a E
  refine Run.gtr rfl E rfl rfl rfl rfl (decide_eq_false (by omega)) ?_; clear E a; intro a E
  refine Run.pickF rfl E rfl rfl rfl rfl ?_; clear E a; intro a E
  refine Run.nil ?_
  refine then_n ?_
  refine cond_F E rfl ?_
  refine wp_skip ?_
  refine then_n ?_
  refine wp_seq ?_
  refine region_plain (n := 9) [(0, .l), (1, .p), (2, .e), (3, .p), (4, .p), (5, .p), (6, .e), (7, .p), (8, .l)] rfl rfl ?_
  refine Run.loadN (cs := [.int .i64 (G : Int), .int .i64 (ev : Int), .int .i64 lim]) rfl rfl E S rfl rfl rfl ag102 rfl (fun _ s => objAll s 2 rfl) ?_; clear E a; intro a E
  refine Run.move rfl E rfl rfl rfl ?_; clear E a; intro a E
  refine Run.call (args := [.agg #[.int .i64 (G : Int), .int .i64 (ev : Int), .int .i64 lim], .slice L l.length cL]) rfl rfl E rfl rfl Try.func70 nm70 rfl rfl (taped19_walk hG he0 he1 hl0 hl1 (hL.bel S.belT) (fun x hx => ⟨(hL2 x hx).1.bel S.belT, (hL2 x hx).2⟩) hll hts) ?_; rintro e_ w ⟨g, A, c, B, d, C, e, O, cO, own, hown, rfl, S_⟩; refine ⟨_, rfl, (fun _ => S_.belT), ?_⟩; clear E a; intro a E
  replace S : St _ _ _ [.obj _ _ [_, _, _, _, _, _, _, _, _, _, _, _, _], _, _, _, _, _, .obj _ _ [_], .obj _ _ [_], .obj _ _ [_, _, _]] := St.call (A := []) (R := [_, _, _]) S S_; clear S_
  have hol : own.length = ts.length := by rw [← hown, List.length_map]
  refine Run.move rfl E rfl rfl rfl ?_; clear E a; intro a E
  refine Run.extract rfl E rfl rfl rfl rfl ?_; clear E a; intro a E
  refine Run.extract rfl E rfl rfl rfl rfl ?_; clear E a; intro a E
  refine Run.alloc rfl rfl E S rfl rfl z50 rfl ?_; clear E a S; intro b4 w a E S B_; clear B_
  refine Run.assign rfl E rfl rfl rfl ?_; clear E a; intro a E
  refine Run.store (news := [.slice O own.length cO]) (cs' := [_]) (hp' := [_, _, _, _, _, _, _, _, _, _]) 0 rfl E S rfl rfl rfl rfl rfl sz50 rfl rfl rfl rfl ?_; clear S; intro w S
  refine Run.nil ?_
  refine then_n ?_
  refine wp_seq ?_
  refine wp_seq ?_
  refine region_plain (n := 2) [(0, .p), (1, .p)] rfl rfl ?_
  refine Run.move rfl E rfl rfl rfl ?_; clear E a; intro a E
  refine Run.bin (v := .bool false) rfl E rfl rfl rfl rfl (fun _ => by kernel_rfl) ?_; clear E a; intro a E
  refine Run.nil ?_
  refine then_n ?_
  refine cond_F E rfl ?_
  refine wp_skip ?_
  refine then_n ?_
  refine wp_seq ?_
  refine region_plain (n := 2) [(0, .e), (1, .l)] rfl rfl ?_
  refine Run.alloc rfl rfl E S rfl rfl z3 rfl ?_; clear E a S; intro b5 w a E S B_; clear B_
  refine Run.store (news := [.int .i64 0]) (cs' := [_]) (hp' := [_, _, _, _, _, _, _, _, _, _, _]) 0 rfl E S rfl rfl rfl rfl rfl sz3 rfl rfl rfl rfl ?_; clear S; intro w S
  refine Run.nil ?_
  refine then_n ?_
  refine wp_seq ?_
  refine wp_seq ?_
  refine region_plain (n := 2) [(0, .p), (1, .e)] rfl rfl ?_
  refine Run.move rfl E rfl rfl rfl ?_; clear E a; intro a E
  refine Run.call (args := [.pointer (some ⟨g, 0, none⟩)]) rfl rfl E rfl rfl Try.func25 nm25 rfl rfl (all_walk) ?_; rintro e_ w ⟨bx6, rfl, S_⟩; refine ⟨_, rfl, (fun _ => S_.belT), ?_⟩; clear E a; intro a E
  replace S : St _ _ _ [.obj _ _ [_], .obj _ _ [_], .obj _ _ [_], .obj _ _ [_, _, _, _, _, _, _, _, _, _, _, _, _], _, _, _, _, _, .obj _ _ [_], .obj _ _ [_], .obj _ _ [_, _, _]] := St.call (A := []) (R := [_, _, _, _, _, _, _, _, _, _, _]) S S_; clear S_
  refine Run.nil ?_
  refine then_n ?_
  refine wp_block ?_
  have S : St _ _ _ [_, _, _, _, _, _, _, _, _, _, _, _] := S.sel [1, 0, 3, 4, 5, 6, 11, 10, 9, 2, 7, 8] _ rfl (by kernel_rfl)
  have E0 : Env 104 [(3, .pointer (some ⟨b1, 0, none⟩)), (5, .pointer (some ⟨b2, 0, none⟩)), (6, .pointer (some ⟨b3, 0, none⟩)), (7, .pointer (some ⟨g, 0, none⟩)), (8, .pointer (some ⟨b4, 0, none⟩)), (9, .pointer (some ⟨b5, 0, none⟩))] a := E.keeps [(3, _), (5, _), (6, _), (7, _), (8, _), (9, _)] ⟨rfl, rfl, rfl, rfl, rfl, rfl, trivial⟩
  have hgf : a.eval (.tmp 35) = .func (.func 85) #[] #[.pointer (some ⟨bx6, 0, none⟩)] := E.eval rfl
  clear E
  have hw0 : w0.heap.size ≤ w.heap.size := S.chg.size
  have hlt0 : ∀ b ∈ fps [.obj b5 3 [.int .i64 0], .obj bx6 24 [.pointer (some ⟨g, 0, none⟩)], .obj g 128 [.int .i64 (G : Int), .int .i64 (ev : Int), .int .i64 lim, .slice A ((tbytes G ev ts).length) c, .slice B ((tstarts G ev ts).length) d, .int .i64 ((lastS ts).kind), .int .i64 ((lastS ts).node), .int .i64 ((lastS ts).phase), .int .i64 ((lastS ts).pos), .int .i64 ((lastS ts).start), .int .i64 ((lastS ts).depth), .int .i64 ((lastS ts).org), .slice C ((lastS ts).caps.length) e], .row (.slice A ((tbytes G ev ts).length) c) 5 1 ((tbytes G ev ts).length) (u8s (tbytes G ev ts)), .row (.slice B ((tstarts G ev ts).length) d) 3 1 ((tstarts G ev ts).length) (ints (tstarts G ev ts)), .row (.slice C ((lastS ts).caps.length) e) 3 1 ((lastS ts).caps.length) (ints (lastS ts).caps), .obj b1 102 [.int .i64 (G : Int), .int .i64 (ev : Int), .int .i64 lim], .obj b2 3 [.int .i64 stop], .obj b3 4 [.bool false], .obj b4 50 [.slice O own.length cO], .row (.slice O own.length cO) 34 8 own.length (stams own), .rows (own.map StaM.irow)], b < w.heap.size := S.lt
  have hTH := (St.holdsL (A := [.obj g 128 [.int .i64 (G : Int), .int .i64 (ev : Int), .int .i64 lim, .slice A ((tbytes G ev ts).length) c, .slice B ((tstarts G ev ts).length) d, .int .i64 ((lastS ts).kind), .int .i64 ((lastS ts).node), .int .i64 ((lastS ts).phase), .int .i64 ((lastS ts).pos), .int .i64 ((lastS ts).start), .int .i64 ((lastS ts).depth), .int .i64 ((lastS ts).org), .slice C ((lastS ts).caps.length) e], .row (.slice A ((tbytes G ev ts).length) c) 5 1 ((tbytes G ev ts).length) (u8s (tbytes G ev ts)), .row (.slice B ((tstarts G ev ts).length) d) 3 1 ((tstarts G ev ts).length) (ints (tstarts G ev ts)), .row (.slice C ((lastS ts).caps.length) e) 3 1 ((lastS ts).caps.length) (ints (lastS ts).caps)]) (R := [_, _, _, _, _, _, _, _]) (S.sel [2, 3, 4, 5, 0, 1, 6, 7, 8, 9, 10, 11] ([.obj g 128 [.int .i64 (G : Int), .int .i64 (ev : Int), .int .i64 lim, .slice A ((tbytes G ev ts).length) c, .slice B ((tstarts G ev ts).length) d, .int .i64 ((lastS ts).kind), .int .i64 ((lastS ts).node), .int .i64 ((lastS ts).phase), .int .i64 ((lastS ts).pos), .int .i64 ((lastS ts).start), .int .i64 ((lastS ts).depth), .int .i64 ((lastS ts).org), .slice C ((lastS ts).caps.length) e], .row (.slice A ((tbytes G ev ts).length) c) 5 1 ((tbytes G ev ts).length) (u8s (tbytes G ev ts)), .row (.slice B ((tstarts G ev ts).length) d) 3 1 ((tstarts G ev ts).length) (ints (tstarts G ev ts)), .row (.slice C ((lastS ts).caps.length) e) 3 1 ((lastS ts).caps.length) (ints (lastS ts).caps)] ++ [_, _, _, _, _, _, _, _]) rfl (by kernel_rfl)))
  have hTl : ∀ k ∈ fps [.obj g 128 [.int .i64 (G : Int), .int .i64 (ev : Int), .int .i64 lim, .slice A ((tbytes G ev ts).length) c, .slice B ((tstarts G ev ts).length) d, .int .i64 ((lastS ts).kind), .int .i64 ((lastS ts).node), .int .i64 ((lastS ts).phase), .int .i64 ((lastS ts).pos), .int .i64 ((lastS ts).start), .int .i64 ((lastS ts).depth), .int .i64 ((lastS ts).org), .slice C ((lastS ts).caps.length) e], .row (.slice A ((tbytes G ev ts).length) c) 5 1 ((tbytes G ev ts).length) (u8s (tbytes G ev ts)), .row (.slice B ((tstarts G ev ts).length) d) 3 1 ((tstarts G ev ts).length) (ints (tstarts G ev ts)), .row (.slice C ((lastS ts).caps.length) e) 3 1 ((lastS ts).caps.length) (ints (lastS ts).caps)], k ∉ [b5] := St.headNot (A := [.obj g 128 [.int .i64 (G : Int), .int .i64 (ev : Int), .int .i64 lim, .slice A ((tbytes G ev ts).length) c, .slice B ((tstarts G ev ts).length) d, .int .i64 ((lastS ts).kind), .int .i64 ((lastS ts).node), .int .i64 ((lastS ts).phase), .int .i64 ((lastS ts).pos), .int .i64 ((lastS ts).start), .int .i64 ((lastS ts).depth), .int .i64 ((lastS ts).org), .slice C ((lastS ts).caps.length) e], .row (.slice A ((tbytes G ev ts).length) c) 5 1 ((tbytes G ev ts).length) (u8s (tbytes G ev ts)), .row (.slice B ((tstarts G ev ts).length) d) 3 1 ((tstarts G ev ts).length) (ints (tstarts G ev ts)), .row (.slice C ((lastS ts).caps.length) e) 3 1 ((lastS ts).caps.length) (ints (lastS ts).caps)]) (R := [_, _, _, _, _, _, _]) (S.sel [0, 2, 3, 4, 5, 1, 6, 7, 8, 9, 10, 11] (_ :: ([.obj g 128 [.int .i64 (G : Int), .int .i64 (ev : Int), .int .i64 lim, .slice A ((tbytes G ev ts).length) c, .slice B ((tstarts G ev ts).length) d, .int .i64 ((lastS ts).kind), .int .i64 ((lastS ts).node), .int .i64 ((lastS ts).phase), .int .i64 ((lastS ts).pos), .int .i64 ((lastS ts).start), .int .i64 ((lastS ts).depth), .int .i64 ((lastS ts).org), .slice C ((lastS ts).caps.length) e], .row (.slice A ((tbytes G ev ts).length) c) 5 1 ((tbytes G ev ts).length) (u8s (tbytes G ev ts)), .row (.slice B ((tstarts G ev ts).length) d) 3 1 ((tstarts G ev ts).length) (ints (tstarts G ev ts)), .row (.slice C ((lastS ts).caps.length) e) 3 1 ((lastS ts).caps.length) (ints (lastS ts).caps)] ++ [_, _, _, _, _, _, _])) rfl (by kernel_rfl)) rfl
  have hseq := all_seq hTH hok hlim hl1 (S.objCell 1 0 rfl rfl) (hlt0 _ (by simp [fps, Ck.fp])) (F0 := [b5]) hTl (St.headNot (A := [_]) (R := [_, _, _, _, _, _, _, _, _, _]) S rfl _ (by simp [fps, Ck.fp])) (fun k h => by rw [List.mem_singleton.1 h]; exact hlt0 _ (by simp [fps, Ck.fp]))
  refine (wpIn_wide (n := 3)).1 (range_own (F := Fence.wide) rfl (by decide) hgf trivial (enters_of Try.func85 nm85 rfl) hseq (fun _ => rfl) (fun (pre : List (Nat × StaM)) W => St [] w0 W [.obj b5 3 [.int .i64 (pre.length : Int)], .obj bx6 24 [.pointer (some ⟨g, 0, none⟩)], .obj g 128 [.int .i64 (G : Int), .int .i64 (ev : Int), .int .i64 lim, .slice A ((tbytes G ev ts).length) c, .slice B ((tstarts G ev ts).length) d, .int .i64 ((lastS ts).kind), .int .i64 ((lastS ts).node), .int .i64 ((lastS ts).phase), .int .i64 ((lastS ts).pos), .int .i64 ((lastS ts).start), .int .i64 ((lastS ts).depth), .int .i64 ((lastS ts).org), .slice C ((lastS ts).caps.length) e], .row (.slice A ((tbytes G ev ts).length) c) 5 1 ((tbytes G ev ts).length) (u8s (tbytes G ev ts)), .row (.slice B ((tstarts G ev ts).length) d) 3 1 ((tstarts G ev ts).length) (ints (tstarts G ev ts)), .row (.slice C ((lastS ts).caps.length) e) 3 1 ((lastS ts).caps.length) (ints (lastS ts).caps), .obj b1 102 [.int .i64 (G : Int), .int .i64 (ev : Int), .int .i64 lim], .obj b2 3 [.int .i64 stop], .obj b3 4 [.bool false], .obj b4 50 [.slice O own.length cO], .row (.slice O own.length cO) 34 8 own.length (stams own), .rows (own.map StaM.irow)]) (fun c_ pre W => c_ = Code.exit 0 ∧ St [] w0 W [.obj b5 3 [.int .i64 (pre.length : Int)], .obj bx6 24 [.pointer (some ⟨g, 0, none⟩)], .obj g 128 [.int .i64 (G : Int), .int .i64 (ev : Int), .int .i64 lim, .slice A ((tbytes G ev ts).length) c, .slice B ((tstarts G ev ts).length) d, .int .i64 ((lastS ts).kind), .int .i64 ((lastS ts).node), .int .i64 ((lastS ts).phase), .int .i64 ((lastS ts).pos), .int .i64 ((lastS ts).start), .int .i64 ((lastS ts).depth), .int .i64 ((lastS ts).org), .slice C ((lastS ts).caps.length) e], .row (.slice A ((tbytes G ev ts).length) c) 5 1 ((tbytes G ev ts).length) (u8s (tbytes G ev ts)), .row (.slice B ((tstarts G ev ts).length) d) 3 1 ((tstarts G ev ts).length) (ints (tstarts G ev ts)), .row (.slice C ((lastS ts).caps.length) e) 3 1 ((lastS ts).caps.length) (ints (lastS ts).caps), .obj b1 102 [.int .i64 (G : Int), .int .i64 (ev : Int), .int .i64 lim], .obj b2 3 [.int .i64 stop], .obj b3 4 [.bool false], .obj b4 50 [.slice O own.length cO], .row (.slice O own.length cO) 34 8 own.length (stams own), .rows (own.map StaM.irow)] ∧ (pre.length : Int) = stop)
    (fun s_ X Y R_ hs hc hr => hs.abC hw0 hlt0 hc hr) (fun _ s_ X Y R_ hs hc hr => ⟨hs.1, hs.2.1.abC hw0 hlt0 hc hr, hs.2.2⟩) S
    (fun pre x a' W => ∃ b11 : Nat, Env 104 [(10, .int .i64 (x.1 : Int)), (11, .pointer (some ⟨b11, 0, none⟩)), (3, .pointer (some ⟨b1, 0, none⟩)), (5, .pointer (some ⟨b2, 0, none⟩)), (6, .pointer (some ⟨b3, 0, none⟩)), (7, .pointer (some ⟨g, 0, none⟩)), (8, .pointer (some ⟨b4, 0, none⟩)), (9, .pointer (some ⟨b5, 0, none⟩))] a' ∧ (∀ j v, x.2.cells[j]? = some v → W.cell? ⟨b11, j, none⟩ = some v) ∧ Rd W x.2.A x.2.s.caps.length 1 (ints x.2.s.caps) ∧ ts[x.1]? = some x.2.s ∧ x.1 = pre.length) (fun pre x a' _ X Y row hs hg hr => by obtain ⟨b11, h1, h2, h3, h4⟩ := hs; exact ⟨b11, h1, fun j v hj => cell_kept (h2 j v hj) hg (fun r e => (hr r e).2), h3.keepsBooks hg (fun r e => (hr r e).2), h4⟩) ?_ ?_ ?_ ?_)
  · intro l pre x W K hWs hI hV hK
    have E : Env 104 [(37, .agg #[.int .i64 x.2.s.kind, .int .i64 x.2.s.node, .int .i64 x.2.s.phase, .int .i64 x.2.s.pos, .int .i64 x.2.s.start, .int .i64 x.2.s.depth, .int .i64 x.2.s.org, .slice x.2.A x.2.s.caps.length x.2.c]), (36, .int .i64 (x.1 : Int)), (3, .pointer (some ⟨b1, 0, none⟩)), (5, .pointer (some ⟨b2, 0, none⟩)), (6, .pointer (some ⟨b3, 0, none⟩)), (7, .pointer (some ⟨g, 0, none⟩)), (8, .pointer (some ⟨b4, 0, none⟩)), (9, .pointer (some ⟨b5, 0, none⟩))] ({ tmps := (Array.zip #[36, 37] #[Value.int .i64 (x.1 : Int), .agg #[.int .i64 x.2.s.kind, .int .i64 x.2.s.node, .int .i64 x.2.s.phase, .int .i64 x.2.s.pos, .int .i64 x.2.s.start, .int .i64 x.2.s.depth, .int .i64 x.2.s.org, .slice x.2.A x.2.s.caps.length x.2.c]]).foldl (fun t (p, v) => t.setIfInBounds p v) a.tmps, defers := [] } : Act) := by
      have h := ((E0.put (d := 36) (.int .i64 (x.1 : Int)) rfl).put (d := 37) (.agg #[.int .i64 x.2.s.kind, .int .i64 x.2.s.node, .int .i64 x.2.s.phase, .int .i64 x.2.s.pos, .int .i64 x.2.s.start, .int .i64 x.2.s.depth, .int .i64 x.2.s.org, .slice x.2.A x.2.s.caps.length x.2.c]) rfl).deferred (ds' := [])
      simpa [Act.put] using h
    generalize ({ tmps := (Array.zip #[36, 37] #[Value.int .i64 (x.1 : Int), .agg #[.int .i64 x.2.s.kind, .int .i64 x.2.s.node, .int .i64 x.2.s.phase, .int .i64 x.2.s.pos, .int .i64 x.2.s.start, .int .i64 x.2.s.depth, .int .i64 x.2.s.org, .slice x.2.A x.2.s.caps.length x.2.c]]).foldl (fun t (p, v) => t.setIfInBounds p v) a.tmps, defers := [] } : Act) = a0 at E ⊢
    clear E0 hgf
    clear a; rename Act => a
    have S := St.nil [] W
    have hI0 := hI; clear hI
    refine wpIn_seq ?_
    refine region_plain_in (m := 1) (WideF.round l) [(0, .p)] (by kernel_rfl) rfl rfl ?_
    refine Run.assign rfl E rfl rfl rfl ?_; clear E a; intro a E
    refine Run.nilIn ?_
    refine then_n ?_
    refine region_plain_in (m := 2) (WideF.round l) [(0, .e), (1, .l)] (by kernel_rfl) rfl rfl ?_
    refine Run.alloc rfl rfl E S rfl rfl z34 rfl ?_; clear E a S; intro b7 w a E S B_; clear B_
    refine Run.store (news := [.int .i64 x.2.s.kind, .int .i64 x.2.s.node, .int .i64 x.2.s.phase, .int .i64 x.2.s.pos, .int .i64 x.2.s.start, .int .i64 x.2.s.depth, .int .i64 x.2.s.org, .slice x.2.A x.2.s.caps.length x.2.c]) (cs' := [_, _, _, _, _, _, _, _]) (hp' := [_]) 0 rfl E S rfl rfl rfl rfl rfl sz34 rfl rfl rfl rfl ?_; clear S; intro w S
    refine Run.nilIn ?_
    refine then_n ?_
    exact hK _ _ (Chg.keeps (hp := []) S.chg (fun c hc => by cases hc) _) (Kc.ofChg S.chg (fun r hr => by cases hr)) (hI0.bel S.belT) ⟨b7, E.keeps [(10, _), (11, _), (3, _), (5, _), (6, _), (7, _), (8, _), (9, _)] ⟨rfl, rfl, rfl, rfl, rfl, rfl, rfl, rfl, trivial⟩, (fun j v hj => S.objCell 0 j rfl hj), hV.2.2.bel S.belT, hV.2.1, hV.1⟩
  · rintro l pre x a W hWs hI ⟨b11, E, hb11, hRx, htx, hxp⟩
    clear E0 hgf
    have hI0 := hI; clear hI
    have S := St.nil [] W
    have hcl := right_capl (hok.right _ (List.mem_of_getElem? htx))
    have hxl := (List.getElem?_eq_some_iff.1 htx).1
    obtain ⟨y, hy, hys⟩ := own_get hown htx
    have hyc : y.s.caps.length = x.2.s.caps.length := by rw [hys]
    obtain ⟨bO, oO, rfl, hOc⟩ := (hI0.rd 10 rfl).place (by omega)
    clear S; have S := St.nil [] W
    have o0 := hI0.obj 0 rfl
    have o9 := hI0.obj 9 rfl
    refine wpIn_block ?_
    refine wpIn_seq ?_
    refine wpIn_seq ?_
    refine region_drawS_in (m := 18) (WideF.round l) [(0, .p), (1, .t), (2, .p), (3, .p), (4, .p), (5, .t), (6, .p), (7, .p), (8, .p), (9, .p), (12, .p), (10, .t), (11, .t), (13, .p), (14, .t), (15, .e), (16, .p), (17, .p)] [0, 0, 3, 7, 15, 15, 47, 127, 255, 511, 1023, 1023, 1023, 7167, 15359, 32767, 65535, 131071] S mixed rfl rfl (by kernel_rfl) (by kernel_rfl) (fun _ _ _ _ _ h => h) ?_; clear S; intro w S B_; clear B_
    refine Run.move rfl E rfl rfl rfl ?_; clear E a; intro a E
    refine Run.load1 rfl rfl E S rfl rfl rfl one3 (fun _ s_ => roObj o0 s_ rfl) ?_; clear E a; intro a E
    refine Run.nei rfl E rfl rfl rfl rfl (decide_eq_false (fun h => h (by rw [hxp]))) ?_; clear E a; intro a E
    refine Run.move rfl E rfl rfl rfl ?_; clear E a; intro a E
    refine Run.move rfl E rfl rfl rfl ?_; clear E a; intro a E
    refine Run.load1 rfl rfl E S rfl rfl rfl one50 (fun _ s_ => roObj o9 s_ rfl) ?_; clear E a; intro a E
    refine Run.len rfl E rfl rfl rfl Try.underlying50 ?_; clear E a; intro a E
    refine Run.geq rfl E rfl rfl rfl rfl (decide_eq_false (by omega)) ?_; clear E a; intro a E
    refine Run.pickF rfl E rfl rfl rfl rfl ?_; clear E a; intro a E
    refine Run.move rfl E rfl rfl rfl ?_; clear E a; intro a E
    refine Run.move rfl E rfl rfl rfl ?_; clear E a; intro a E
    refine Run.loadN (cs := [.int .i64 x.2.s.kind, .int .i64 x.2.s.node, .int .i64 x.2.s.phase, .int .i64 x.2.s.pos, .int .i64 x.2.s.start, .int .i64 x.2.s.depth, .int .i64 x.2.s.org, .slice x.2.A x.2.s.caps.length x.2.c]) rfl rfl E S rfl rfl rfl ag34 rfl (fun _ s_ => fun j v hj => by have h_ := roCell (hb11 j v hj) s_; rw [add_at, Nat.zero_add]; exact h_) ?_; clear E a; intro a E
    refine Run.load1 rfl rfl E S rfl rfl rfl one50 (fun _ s_ => roObj o9 s_ rfl) ?_; clear E a; intro a E
    refine Run.indexAddr rfl E rfl rfl rfl rfl Try.underlying50 sz34 (by omega) (ix_at' (m' := x.1) (by omega)) ?_; clear E a; intro a E
    refine Run.loadN (cs := [.int .i64 y.s.kind, .int .i64 y.s.node, .int .i64 y.s.phase, .int .i64 y.s.pos, .int .i64 y.s.start, .int .i64 y.s.depth, .int .i64 y.s.org, .slice y.A y.s.caps.length y.c]) rfl rfl E S rfl rfl rfl ag34 rfl (fun _ s_ => rdAtL hOc s_ _ _ (stams_get hy)) ?_; clear E a; intro a E
    refine Run.call (args := [.agg #[.int .i64 x.2.s.kind, .int .i64 x.2.s.node, .int .i64 x.2.s.phase, .int .i64 x.2.s.pos, .int .i64 x.2.s.start, .int .i64 x.2.s.depth, .int .i64 x.2.s.org, .slice x.2.A x.2.s.caps.length x.2.c], .agg #[.int .i64 y.s.kind, .int .i64 y.s.node, .int .i64 y.s.phase, .int .i64 y.s.pos, .int .i64 y.s.start, .int .i64 y.s.depth, .int .i64 y.s.org, .slice y.A y.s.caps.length y.c]]) rfl rfl E rfl rfl Try.func42 nm42 rfl rfl (same_walk (s := x.2.s) (t := y.s) (hRx.bel S.belT) ((hI0.rowsRd (q := y.irow) 11 rfl (List.mem_map.2 ⟨y, List.mem_of_getElem? hy, rfl⟩)).bel S.belT) (by omega)) ?_; rintro e_ w ⟨rfl, B_⟩; refine ⟨_, rfl, fun _ => B_, ?_⟩; clear E a; replace S := S.bel B_; intro a E
    clear B_
    replace E := E.setb 53 rfl (decide_eq_true hys.symm)
    refine Run.not rfl E rfl rfl rfl rfl ?_; clear E a; intro a E
    refine Run.pickF rfl E rfl rfl rfl rfl ?_; clear E a; intro a E
    refine Run.nilIn ?_
    refine then_n ?_
    refine cond_F_in E rfl ?_
    refine wpIn_skip ?_
    refine then_n ?_
    refine wpIn_seq ?_
    have k1 := S.chg
    have S1 := St.call (A := []) (R := [_, _, _, _, _, _, _, _, _, _, _, _]) hI0 S
    have hO2 := (St.ownL (A := [.obj b5 3 [.int .i64 (pre.length : Int)]]) (R := [_, _, _, _, _, _, _, _, _, _, _]) S1).all
    replace S := (St.ownL (A := [.obj b5 3 [.int .i64 (pre.length : Int)]]) (R := [_, _, _, _, _, _, _, _, _, _, _]) S1).st
    refine region_plain_in (m := 3) (WideF.round l) [(0, .l), (1, .p), (2, .l)] (by kernel_rfl) rfl rfl ?_
    refine Run.load1 rfl rfl E S rfl rfl rfl one3 (fun _ s => s.objCell 0 0 rfl rfl) ?_; clear E a; intro a E
    refine Run.add rfl E rfl rfl rfl rfl (i64_ok (by omega)) ?_; clear E a; intro a E
    refine Run.store (news := [.int .i64 ((pre.length : Int) + 1)]) (cs' := [_]) (hp' := [_]) 0 rfl E S rfl rfl rfl rfl rfl sz3 rfl rfl rfl rfl ?_; clear S; intro w S
    refine Run.nilIn ?_
    refine then_n ?_
    refine wpIn_seq ?_
    have e1 : (pre.length : Int) + 1 = ((pre ++ [x]).length : Int) := by simp
    rw [e1] at S
    have k2 := S.chg
    replace hI0 := St.call (A := [.obj b5 3 [.int .i64 (pre.length : Int)]]) (R := [_, _, _, _, _, _, _, _, _, _, _]) S1 S
    have o0 := hI0.obj 0 rfl
    have o7 := hI0.obj 7 rfl
    have S := St.nil [] w
    refine region_plain_in (m := 3) (WideF.round l) [(0, .l), (1, .l), (2, .p)] (by kernel_rfl) rfl rfl ?_
    refine Run.load1 rfl rfl E S rfl rfl rfl one3 (fun _ s_ => roObj o0 s_ rfl) ?_; clear E a; intro a E
    refine Run.load1 rfl rfl E S rfl rfl rfl one3 (fun _ s_ => roObj o7 s_ rfl) ?_; clear E a; intro a E
    by_cases hst : ((pre ++ [x]).length : Int) = stop
    · skip
      refine Run.eqi rfl E rfl rfl rfl rfl (decide_eq_true (by omega)) ?_; clear E a; intro a E
      refine Run.nilIn ?_
      refine then_n ?_
      refine cond_T_in E rfl ?_
      refine wpIn_exit ?_
      refine blk_o rfl ?_
      exact ⟨(Chg.keeps (hp := []) k1 (fun c hc => by cases hc) _).trans ((Chg.keeps k2 hO2 _).trans (Chg.keeps (hp := []) S.chg (fun c hc => by cases hc) _)), rfl, hI0.bel S.belT, hst⟩
    · skip
      refine Run.eqi rfl E rfl rfl rfl rfl (decide_eq_false (by omega)) ?_; clear E a; intro a E
      refine Run.nilIn ?_
      refine then_n ?_
      refine cond_F_in E rfl ?_
      refine wpIn_skip ?_
      refine blk_n ?_
      exact ⟨(Chg.keeps (hp := []) k1 (fun c hc => by cases hc) _).trans ((Chg.keeps k2 hO2 _).trans (Chg.keeps (hp := []) S.chg (fun c hc => by cases hc) _)), (Kc.ofChg k1 (fun r hr => by cases hr)).trans ((Kc.ofChg k2 (fun r hr => hr)).trans (Kc.ofChg S.chg (fun r hr => by cases hr))), hI0.bel S.belT⟩
  · intro D xs W hD hS hI hK
    have E : EnvD [{ target := .collected D, args := #[] }] 104 [(3, .pointer (some ⟨b1, 0, none⟩)), (5, .pointer (some ⟨b2, 0, none⟩)), (6, .pointer (some ⟨b3, 0, none⟩)), (7, .pointer (some ⟨g, 0, none⟩)), (8, .pointer (some ⟨b4, 0, none⟩)), (9, .pointer (some ⟨b5, 0, none⟩))] { a with defers := { target := .collected D, args := #[] } :: a.defers } := by
      have h := E0.deferred (ds' := { target := .collected D, args := #[] } :: a.defers)
      rw [E0.defers] at h ⊢; exact h
    generalize ({ a with defers := { target := .collected D, args := #[] } :: a.defers } : Act) = a1 at E ⊢
    clear E0 hgf
    clear a; rename Act => a
    have hI0 := hI; clear hI
    have hxo : xs.length = own.length := by have h_ : xs.length = ts.length := hS; omega
    have S := St.start _ hI0.all hI0.nodup
    refine blk_n ?_
    refine then_n ?_
    refine wp_seq ?_
    refine wp_seq ?_
    refine region_plain (n := 9) [(0, .l), (1, .l), (2, .p), (3, .p), (4, .p), (5, .l), (6, .l), (7, .p), (8, .p)] rfl rfl ?_
    refine Run.load1 rfl rfl E S rfl rfl rfl one3 (fun _ s => s.objCell 0 0 rfl rfl) ?_; clear E a; intro a E
    refine Run.load1 rfl rfl E S rfl rfl rfl one50 (fun _ s => s.objCell 9 0 rfl rfl) ?_; clear E a; intro a E
    refine Run.len rfl E rfl rfl rfl Try.underlying50 ?_; clear E a; intro a E
    refine Run.nei rfl E rfl rfl rfl rfl (decide_eq_false (fun h => h (by rw [hxo]))) ?_; clear E a; intro a E
    refine Run.move rfl E rfl rfl rfl ?_; clear E a; intro a E
    refine Run.off rfl E rfl rfl ?_; clear E a; intro a E
    refine Run.off rfl E rfl rfl ?_; clear E a; intro a E
    refine Run.off rfl E rfl rfl ?_; clear E a; intro a E
    refine Run.pickF rfl E rfl rfl rfl rfl ?_; clear E a; intro a E
    refine Run.nil ?_
    refine then_n ?_
    refine cond_F E rfl ?_
    refine wp_skip ?_
    refine then_n ?_
    refine wp_seq ?_
    refine wp_seq ?_
    refine region_plain (n := 3) [(0, .l), (1, .p), (2, .p)] rfl rfl ?_
    refine Run.load1 rfl rfl E S rfl rfl rfl one50 (fun _ s => s.objCell 9 0 rfl rfl) ?_; clear E a; intro a E
    refine Run.len rfl E rfl rfl rfl Try.underlying50 ?_; clear E a; intro a E
    refine Run.move rfl E rfl rfl rfl ?_; clear E a; intro a E
    refine Run.nil ?_
    refine then_n ?_
    refine wp_block ?_
    refine wp_loop_ghost (fun n_ a w => ∃ i : Nat, own.length - i = n_ ∧ EnvD [{ target := .collected D, args := #[] }] 104 [(3, .pointer (some ⟨b1, 0, none⟩)), (6, .pointer (some ⟨b3, 0, none⟩)), (7, .pointer (some ⟨g, 0, none⟩)), (8, .pointer (some ⟨b4, 0, none⟩)), (71, .int .i64 (own.length : Int)), (72, .int .i64 (i : Int))] a ∧ St _ _ w [.obj b5 3 [.int .i64 (xs.length : Int)], .obj bx6 24 [.pointer (some ⟨g, 0, none⟩)], .obj g 128 [.int .i64 (G : Int), .int .i64 (ev : Int), .int .i64 lim, .slice A ((tbytes G ev ts).length) c, .slice B ((tstarts G ev ts).length) d, .int .i64 ((lastS ts).kind), .int .i64 ((lastS ts).node), .int .i64 ((lastS ts).phase), .int .i64 ((lastS ts).pos), .int .i64 ((lastS ts).start), .int .i64 ((lastS ts).depth), .int .i64 ((lastS ts).org), .slice C ((lastS ts).caps.length) e], .row (.slice A ((tbytes G ev ts).length) c) 5 1 ((tbytes G ev ts).length) (u8s (tbytes G ev ts)), .row (.slice B ((tstarts G ev ts).length) d) 3 1 ((tstarts G ev ts).length) (ints (tstarts G ev ts)), .row (.slice C ((lastS ts).caps.length) e) 3 1 ((lastS ts).caps.length) (ints (lastS ts).caps), .obj b1 102 [.int .i64 (G : Int), .int .i64 (ev : Int), .int .i64 lim], .obj b2 3 [.int .i64 stop], .obj b3 4 [.bool false], .obj b4 50 [.slice O own.length cO], .row (.slice O own.length cO) 34 8 own.length (stams own), .rows (own.map StaM.irow)] ∧ (i ≤ own.length)) _ ⟨0, rfl, E.keeps [(3, _), (6, _), (7, _), (8, _), (71, _), (72, _)] ⟨rfl, rfl, rfl, rfl, rfl, rfl, trivial⟩, S, Nat.zero_le _⟩ ?_
    clear E a S
    rintro n_ a w ⟨i, rfl, E, S, hi⟩
    refine wp_seq ?_
    refine region_plain (n := 1) [(0, .p)] rfl rfl ?_
    by_cases hlt : i < own.length
    · skip
      obtain ⟨t, ht⟩ : ∃ t, ts[i]? = some t := ⟨_, List.getElem?_eq_getElem (by omega)⟩
      have htc := right_capl (hok.right t (List.mem_of_getElem? ht))
      obtain ⟨y, hy, hys⟩ := own_get hown ht
      have hyc : y.s.caps.length = t.caps.length := by rw [hys]
      obtain ⟨bO, rfl⟩ := S.rowAddr 10 rfl (by omega)
      refine Run.lss rfl E rfl rfl rfl rfl (decide_eq_true (by omega)) ?_; clear E a; intro a E
      refine Run.nil ?_
      refine then_n ?_
      refine wp_seq ?_
      refine cond_T E rfl ?_
      refine wp_skip ?_
      refine then_n ?_
      refine wp_seq ?_
      refine wp_block ?_
      refine wp_seq ?_
      refine region_plain (n := 2) [(0, .p), (1, .p)] rfl rfl ?_
      refine Run.move rfl E rfl rfl rfl ?_; clear E a; intro a E
      refine Run.assign rfl E rfl rfl rfl ?_; clear E a; intro a E
      refine Run.nil ?_
      refine then_n ?_
      refine wp_seq ?_
      refine region_plain (n := 5) [(0, .p), (1, .l), (2, .e), (3, .e), (4, .l)] rfl rfl ?_
      refine Run.fieldAddr rfl E rfl rfl rfl fo102_0 (rfl) ?_; clear E a; intro a E
      refine Run.load1 rfl rfl E S rfl rfl rfl one3 (fun _ s => s.objCell 6 0 rfl rfl) ?_; clear E a; intro a E
      refine Run.call (args := [.int .i64 (G : Int)]) rfl rfl E rfl rfl Try.func78 nm78 rfl rfl (blankS_walk hbl hG) ?_; rintro e_ w ⟨P8, q9, rfl, S_⟩; refine ⟨_, rfl, (fun _ => S_.belT), ?_⟩; clear E a; intro a E
      replace S : St _ _ _ [_, .obj _ _ [_], .obj _ _ [_], .obj _ _ [_, _, _, _, _, _, _, _, _, _, _, _, _], _, _, _, .obj _ _ [_, _, _], .obj _ _ [_], .obj _ _ [_], .obj _ _ [_], _, _] := St.call (A := []) (R := [_, _, _, _, _, _, _, _, _, _, _, _]) S S_; clear S_
      refine Run.alloc rfl rfl E S rfl rfl z34 rfl ?_; clear E a S; intro b10 w a E S B_; clear B_
      refine Run.store (news := [.int .i64 bl.kind, .int .i64 bl.node, .int .i64 bl.phase, .int .i64 bl.pos, .int .i64 bl.start, .int .i64 bl.depth, .int .i64 bl.org, .slice P8 bl.caps.length q9]) (cs' := [_, _, _, _, _, _, _, _]) (hp' := [_, _, _, _, _, _, _, _, _, _, _, _, _, _]) 0 rfl E S rfl rfl rfl rfl rfl sz34 rfl rfl rfl rfl ?_; clear S; intro w S
      refine Run.nil ?_
      refine then_n ?_
      refine wp_seq ?_
      refine wp_seq ?_
      refine region_plain (n := 2) [(0, .p), (1, .p)] rfl rfl ?_
      refine Run.move rfl E rfl rfl rfl ?_; clear E a; intro a E
      by_cases hi0 : 0 < i
      · skip
        obtain ⟨t1, ht1⟩ : ∃ t, ts[i - 1]? = some t := ⟨_, List.getElem?_eq_getElem (by omega)⟩
        obtain ⟨y1, hy1, hys1⟩ := own_get hown ht1
        subst hys1
        have hu := wa_at (G := G) (ev := ev) ht1
        rw [show i - 1 + 1 = i by omega] at hu
        refine Run.gtr rfl E rfl rfl rfl rfl (decide_eq_true (by omega)) ?_; clear E a; intro a E
        refine Run.nil ?_
        refine then_n ?_
        refine cond_T E rfl ?_
        refine region_plain (n := 6) [(0, .l), (1, .p), (2, .p), (3, .p), (4, .l), (5, .l)] rfl rfl ?_
        refine Run.load1 rfl rfl E S rfl rfl rfl one50 (fun _ s => s.objCell 11 0 rfl rfl) ?_; clear E a; intro a E
        refine Run.move rfl E rfl rfl rfl ?_; clear E a; intro a E
        refine Run.sub rfl E rfl rfl rfl rfl (i64_ok (by omega)) ?_; clear E a; intro a E
        refine Run.indexAddr rfl E rfl rfl rfl rfl Try.underlying50 sz34 (by omega) (ix_at (m' := (i - 1)) (o := (i - 1) * 8) (by omega) rfl) ?_; clear E a; intro a E
        refine Run.loadN (cs := [.int .i64 y1.s.kind, .int .i64 y1.s.node, .int .i64 y1.s.phase, .int .i64 y1.s.pos, .int .i64 y1.s.start, .int .i64 y1.s.depth, .int .i64 y1.s.org, .slice y1.A y1.s.caps.length y1.c]) rfl rfl E S rfl rfl rfl ag34 rfl (fun _ s_ => rowAt s_ 12 _ _ rfl (stams_get hy1)) ?_; clear E a; intro a E
        refine Run.store (news := [.int .i64 y1.s.kind, .int .i64 y1.s.node, .int .i64 y1.s.phase, .int .i64 y1.s.pos, .int .i64 y1.s.start, .int .i64 y1.s.depth, .int .i64 y1.s.org, .slice y1.A y1.s.caps.length y1.c]) (cs' := [_, _, _, _, _, _, _, _]) (hp' := [_, _, _, _, _, _, _, _, _, _, _, _, _, _]) 0 rfl E S rfl rfl rfl rfl rfl sz34 rfl rfl rfl rfl ?_; clear S; intro w S
        refine Run.nil ?_
        refine then_n ?_
        refine wp_seq ?_
        refine region_plain (n := 10) [(0, .p), (1, .l), (2, .p), (3, .e), (4, .p), (5, .p), (6, .p), (7, .e), (8, .l), (9, .p)] rfl rfl ?_
        refine Run.move rfl E rfl rfl rfl ?_; clear E a; intro a E
        refine Run.loadN (cs := [.int .i64 y1.s.kind, .int .i64 y1.s.node, .int .i64 y1.s.phase, .int .i64 y1.s.pos, .int .i64 y1.s.start, .int .i64 y1.s.depth, .int .i64 y1.s.org, .slice y1.A y1.s.caps.length y1.c]) rfl rfl E S rfl rfl rfl ag34 rfl (fun _ s => objAll s 0 rfl) ?_; clear E a; intro a E
        refine Run.move rfl E rfl rfl rfl ?_; clear E a; intro a E
        refine Run.call (args := [.pointer (some ⟨g, 0, none⟩), .agg #[.int .i64 y1.s.kind, .int .i64 y1.s.node, .int .i64 y1.s.phase, .int .i64 y1.s.pos, .int .i64 y1.s.start, .int .i64 y1.s.depth, .int .i64 y1.s.org, .slice y1.A y1.s.caps.length y1.c], .int .i64 (i : Int)]) rfl rfl E rfl rfl Try.func79 nm79 rfl rfl (tafter_walk (u := y1.s) (k := i) (St.holdsL (A := [.obj g 128 [.int .i64 (G : Int), .int .i64 (ev : Int), .int .i64 lim, .slice A ((tbytes G ev ts).length) c, .slice B ((tstarts G ev ts).length) d, .int .i64 ((lastS ts).kind), .int .i64 ((lastS ts).node), .int .i64 ((lastS ts).phase), .int .i64 ((lastS ts).pos), .int .i64 ((lastS ts).start), .int .i64 ((lastS ts).depth), .int .i64 ((lastS ts).org), .slice C ((lastS ts).caps.length) e], .row (.slice A ((tbytes G ev ts).length) c) 5 1 ((tbytes G ev ts).length) (u8s (tbytes G ev ts)), .row (.slice B ((tstarts G ev ts).length) d) 3 1 ((tstarts G ev ts).length) (ints (tstarts G ev ts)), .row (.slice C ((lastS ts).caps.length) e) 3 1 ((lastS ts).caps.length) (ints (lastS ts).caps)]) (R := [_, _, _, _, _, _, _, _, _, _]) (S.sel [4, 5, 6, 7, 0, 1, 2, 3, 8, 9, 10, 11, 12, 13] ([.obj g 128 [.int .i64 (G : Int), .int .i64 (ev : Int), .int .i64 lim, .slice A ((tbytes G ev ts).length) c, .slice B ((tstarts G ev ts).length) d, .int .i64 ((lastS ts).kind), .int .i64 ((lastS ts).node), .int .i64 ((lastS ts).phase), .int .i64 ((lastS ts).pos), .int .i64 ((lastS ts).start), .int .i64 ((lastS ts).depth), .int .i64 ((lastS ts).org), .slice C ((lastS ts).caps.length) e], .row (.slice A ((tbytes G ev ts).length) c) 5 1 ((tbytes G ev ts).length) (u8s (tbytes G ev ts)), .row (.slice B ((tstarts G ev ts).length) d) 3 1 ((tstarts G ev ts).length) (ints (tstarts G ev ts)), .row (.slice C ((lastS ts).caps.length) e) 3 1 ((lastS ts).caps.length) (ints (lastS ts).caps)] ++ [_, _, _, _, _, _, _, _, _, _]) rfl (by kernel_rfl))) hok hlim hl1 ht (hu.imp_right (fun h_ => ⟨h_, S.rowsRd (q := y1.irow) 13 rfl (List.mem_map.2 ⟨y1, List.mem_of_getElem? hy1, rfl⟩)⟩))) ?_; rintro e_ w ⟨D11, e12, rfl, S_⟩; refine ⟨_, rfl, (fun _ => S_.belT), ?_⟩; clear E a; intro a E
        replace S : St _ _ _ [_, .obj _ _ [_, _, _, _, _, _, _, _], _, .obj _ _ [_], .obj _ _ [_], .obj _ _ [_, _, _, _, _, _, _, _, _, _, _, _, _], _, _, _, .obj _ _ [_, _, _], .obj _ _ [_], .obj _ _ [_], .obj _ _ [_], _, _] := St.call (A := []) (R := [_, _, _, _, _, _, _, _, _, _, _, _, _, _]) S S_; clear S_
        refine Run.move rfl E rfl rfl rfl ?_; clear E a; intro a E
        refine Run.extract rfl E rfl rfl rfl rfl ?_; clear E a; intro a E
        refine Run.extract rfl E rfl rfl rfl rfl ?_; clear E a; intro a E
        refine Run.alloc rfl rfl E S rfl rfl z34 rfl ?_; clear E a S; intro b13 w a E S B_; clear B_
        refine Run.store (news := [.int .i64 t.kind, .int .i64 t.node, .int .i64 t.phase, .int .i64 t.pos, .int .i64 t.start, .int .i64 t.depth, .int .i64 t.org, .slice D11 t.caps.length e12]) (cs' := [_, _, _, _, _, _, _, _]) (hp' := [_, _, _, _, _, _, _, _, _, _, _, _, _, _, _, _]) 0 rfl E S rfl rfl rfl rfl rfl sz34 rfl rfl rfl rfl ?_; clear S; intro w S
        refine Run.assign rfl E rfl rfl rfl ?_; clear E a; intro a E
        refine Run.nil ?_
        refine then_n ?_
        refine wp_seq ?_
        refine region_drawS (n := 11) [(0, .p), (1, .p), (2, .p), (5, .p), (3, .t), (4, .t), (6, .p), (7, .t), (8, .e), (9, .p), (10, .p)] [0, 1, 3, 7, 7, 7, 55, 119, 255, 511, 1023] S mixed rfl rfl (by kernel_rfl) (fun _ _ _ _ _ h => h) ?_; clear S; intro w S B_; clear B_
        refine Run.move rfl E rfl rfl rfl ?_; clear E a; intro a E
        refine Run.nei rfl E rfl rfl rfl rfl (b := false) (by decide) ?_; clear E a; intro a E
        refine Run.move rfl E rfl rfl rfl ?_; clear E a; intro a E
        refine Run.move rfl E rfl rfl rfl ?_; clear E a; intro a E
        refine Run.loadN (cs := [.int .i64 t.kind, .int .i64 t.node, .int .i64 t.phase, .int .i64 t.pos, .int .i64 t.start, .int .i64 t.depth, .int .i64 t.org, .slice D11 t.caps.length e12]) rfl rfl E S rfl rfl rfl ag34 rfl (fun _ s => objAll s 0 rfl) ?_; clear E a; intro a E
        refine Run.load1 rfl rfl E S rfl rfl rfl one50 (fun _ s => s.objCell 13 0 rfl rfl) ?_; clear E a; intro a E
        refine Run.indexAddr rfl E rfl rfl rfl rfl Try.underlying50 sz34 (by omega) (ix_at (m' := i) (o := i * 8) (by omega) rfl) ?_; clear E a; intro a E
        refine Run.loadN (cs := [.int .i64 y.s.kind, .int .i64 y.s.node, .int .i64 y.s.phase, .int .i64 y.s.pos, .int .i64 y.s.start, .int .i64 y.s.depth, .int .i64 y.s.org, .slice y.A y.s.caps.length y.c]) rfl rfl E S rfl rfl rfl ag34 rfl (fun _ s_ => rowAt s_ 14 _ _ rfl (stams_get hy)) ?_; clear E a; intro a E
        refine Run.call (args := [.agg #[.int .i64 t.kind, .int .i64 t.node, .int .i64 t.phase, .int .i64 t.pos, .int .i64 t.start, .int .i64 t.depth, .int .i64 t.org, .slice D11 t.caps.length e12], .agg #[.int .i64 y.s.kind, .int .i64 y.s.node, .int .i64 y.s.phase, .int .i64 y.s.pos, .int .i64 y.s.start, .int .i64 y.s.depth, .int .i64 y.s.org, .slice y.A y.s.caps.length y.c]]) rfl rfl E rfl rfl Try.func42 nm42 rfl rfl (same_walk (s := t) (t := y.s) (S.rd 1 rfl) (S.rowsRd (q := y.irow) 15 rfl (List.mem_map.2 ⟨y, List.mem_of_getElem? hy, rfl⟩)) (by omega)) ?_; rintro e_ w ⟨rfl, B_⟩; refine ⟨_, rfl, fun _ => B_, ?_⟩; clear E a; replace S := S.bel B_; intro a E
        clear B_
        replace E := E.setb 100 rfl (decide_eq_true hys.symm)
        refine Run.not rfl E rfl rfl rfl rfl ?_; clear E a; intro a E
        refine Run.pickF rfl E rfl rfl rfl rfl ?_; clear E a; intro a E
        refine Run.nil ?_
        refine then_n ?_
        refine cond_F E rfl ?_
        refine wp_skip ?_
        refine blk_n ?_
        refine then_n ?_
        refine region_plain (n := 2) [(0, .p), (1, .p)] rfl rfl ?_
        refine Run.add rfl E rfl rfl rfl rfl (i64_ok (by omega)) ?_; clear E a; intro a E
        refine Run.move rfl E rfl rfl rfl ?_; clear E a; intro a E
        refine Run.nil ?_
        refine then_n ?_
        replace E := E.setv 72 rfl (show Value.int .i64 ((i : Int) + 1) = .int .i64 ((i + 1 : Nat) : Int) from rfl)
        have S : St _ _ _ [_, _, _, _, _, _, _, _, _, _, _, _, _, _, _, _] := S.sel [0, 1, 2, 3, 4, 5, 6, 7, 8, 9, 10, 11, 12, 13, 14, 15] _ rfl (by kernel_rfl)
        have S := S.drop1.drop1.drop1.drop1
        exact ⟨_, (by omega), (i + 1), rfl, E.keeps [(3, _), (6, _), (7, _), (8, _), (71, _), (72, _)] ⟨rfl, rfl, rfl, rfl, rfl, rfl, trivial⟩, S, (by omega)⟩
      · skip
        have hz : i % ev = 0 := by rw [show i = 0 by omega]; exact Nat.zero_mod _
        refine Run.gtr rfl E rfl rfl rfl rfl (decide_eq_false (by omega)) ?_; clear E a; intro a E
        refine Run.nil ?_
        refine then_n ?_
        refine cond_F E rfl ?_
        refine wp_skip ?_
        refine then_n ?_
        refine wp_seq ?_
        refine region_plain (n := 10) [(0, .p), (1, .l), (2, .p), (3, .e), (4, .p), (5, .p), (6, .p), (7, .e), (8, .l), (9, .p)] rfl rfl ?_
        refine Run.move rfl E rfl rfl rfl ?_; clear E a; intro a E
        refine Run.loadN (cs := [.int .i64 bl.kind, .int .i64 bl.node, .int .i64 bl.phase, .int .i64 bl.pos, .int .i64 bl.start, .int .i64 bl.depth, .int .i64 bl.org, .slice P8 bl.caps.length q9]) rfl rfl E S rfl rfl rfl ag34 rfl (fun _ s => objAll s 0 rfl) ?_; clear E a; intro a E
        refine Run.move rfl E rfl rfl rfl ?_; clear E a; intro a E
        refine Run.call (args := [.pointer (some ⟨g, 0, none⟩), .agg #[.int .i64 bl.kind, .int .i64 bl.node, .int .i64 bl.phase, .int .i64 bl.pos, .int .i64 bl.start, .int .i64 bl.depth, .int .i64 bl.org, .slice P8 bl.caps.length q9], .int .i64 (i : Int)]) rfl rfl E rfl rfl Try.func79 nm79 rfl rfl (tafter_walk (u := bl) (k := i) (St.holdsL (A := [.obj g 128 [.int .i64 (G : Int), .int .i64 (ev : Int), .int .i64 lim, .slice A ((tbytes G ev ts).length) c, .slice B ((tstarts G ev ts).length) d, .int .i64 ((lastS ts).kind), .int .i64 ((lastS ts).node), .int .i64 ((lastS ts).phase), .int .i64 ((lastS ts).pos), .int .i64 ((lastS ts).start), .int .i64 ((lastS ts).depth), .int .i64 ((lastS ts).org), .slice C ((lastS ts).caps.length) e], .row (.slice A ((tbytes G ev ts).length) c) 5 1 ((tbytes G ev ts).length) (u8s (tbytes G ev ts)), .row (.slice B ((tstarts G ev ts).length) d) 3 1 ((tstarts G ev ts).length) (ints (tstarts G ev ts)), .row (.slice C ((lastS ts).caps.length) e) 3 1 ((lastS ts).caps.length) (ints (lastS ts).caps)]) (R := [_, _, _, _, _, _, _, _, _, _]) (S.sel [4, 5, 6, 7, 0, 1, 2, 3, 8, 9, 10, 11, 12, 13] ([.obj g 128 [.int .i64 (G : Int), .int .i64 (ev : Int), .int .i64 lim, .slice A ((tbytes G ev ts).length) c, .slice B ((tstarts G ev ts).length) d, .int .i64 ((lastS ts).kind), .int .i64 ((lastS ts).node), .int .i64 ((lastS ts).phase), .int .i64 ((lastS ts).pos), .int .i64 ((lastS ts).start), .int .i64 ((lastS ts).depth), .int .i64 ((lastS ts).org), .slice C ((lastS ts).caps.length) e], .row (.slice A ((tbytes G ev ts).length) c) 5 1 ((tbytes G ev ts).length) (u8s (tbytes G ev ts)), .row (.slice B ((tstarts G ev ts).length) d) 3 1 ((tstarts G ev ts).length) (ints (tstarts G ev ts)), .row (.slice C ((lastS ts).caps.length) e) 3 1 ((lastS ts).caps.length) (ints (lastS ts).caps)] ++ [_, _, _, _, _, _, _, _, _, _]) rfl (by kernel_rfl))) hok hlim hl1 ht (.inl hz)) ?_; rintro e_ w ⟨D14, e15, rfl, S_⟩; refine ⟨_, rfl, (fun _ => S_.belT), ?_⟩; clear E a; intro a E
        replace S : St _ _ _ [_, .obj _ _ [_, _, _, _, _, _, _, _], _, .obj _ _ [_], .obj _ _ [_], .obj _ _ [_, _, _, _, _, _, _, _, _, _, _, _, _], _, _, _, .obj _ _ [_, _, _], .obj _ _ [_], .obj _ _ [_], .obj _ _ [_], _, _] := St.call (A := []) (R := [_, _, _, _, _, _, _, _, _, _, _, _, _, _]) S S_; clear S_
        refine Run.move rfl E rfl rfl rfl ?_; clear E a; intro a E
        refine Run.extract rfl E rfl rfl rfl rfl ?_; clear E a; intro a E
        refine Run.extract rfl E rfl rfl rfl rfl ?_; clear E a; intro a E
        refine Run.alloc rfl rfl E S rfl rfl z34 rfl ?_; clear E a S; intro b16 w a E S B_; clear B_
        refine Run.store (news := [.int .i64 t.kind, .int .i64 t.node, .int .i64 t.phase, .int .i64 t.pos, .int .i64 t.start, .int .i64 t.depth, .int .i64 t.org, .slice D14 t.caps.length e15]) (cs' := [_, _, _, _, _, _, _, _]) (hp' := [_, _, _, _, _, _, _, _, _, _, _, _, _, _, _, _]) 0 rfl E S rfl rfl rfl rfl rfl sz34 rfl rfl rfl rfl ?_; clear S; intro w S
        refine Run.assign rfl E rfl rfl rfl ?_; clear E a; intro a E
        refine Run.nil ?_
        refine then_n ?_
        refine wp_seq ?_
        refine region_drawS (n := 11) [(0, .p), (1, .p), (2, .p), (5, .p), (3, .t), (4, .t), (6, .p), (7, .t), (8, .e), (9, .p), (10, .p)] [0, 1, 3, 7, 7, 7, 55, 119, 255, 511, 1023] S mixed rfl rfl (by kernel_rfl) (fun _ _ _ _ _ h => h) ?_; clear S; intro w S B_; clear B_
        refine Run.move rfl E rfl rfl rfl ?_; clear E a; intro a E
        refine Run.nei rfl E rfl rfl rfl rfl (b := false) (by decide) ?_; clear E a; intro a E
        refine Run.move rfl E rfl rfl rfl ?_; clear E a; intro a E
        refine Run.move rfl E rfl rfl rfl ?_; clear E a; intro a E
        refine Run.loadN (cs := [.int .i64 t.kind, .int .i64 t.node, .int .i64 t.phase, .int .i64 t.pos, .int .i64 t.start, .int .i64 t.depth, .int .i64 t.org, .slice D14 t.caps.length e15]) rfl rfl E S rfl rfl rfl ag34 rfl (fun _ s => objAll s 0 rfl) ?_; clear E a; intro a E
        refine Run.load1 rfl rfl E S rfl rfl rfl one50 (fun _ s => s.objCell 13 0 rfl rfl) ?_; clear E a; intro a E
        refine Run.indexAddr rfl E rfl rfl rfl rfl Try.underlying50 sz34 (by omega) (ix_at (m' := i) (o := i * 8) (by omega) rfl) ?_; clear E a; intro a E
        refine Run.loadN (cs := [.int .i64 y.s.kind, .int .i64 y.s.node, .int .i64 y.s.phase, .int .i64 y.s.pos, .int .i64 y.s.start, .int .i64 y.s.depth, .int .i64 y.s.org, .slice y.A y.s.caps.length y.c]) rfl rfl E S rfl rfl rfl ag34 rfl (fun _ s_ => rowAt s_ 14 _ _ rfl (stams_get hy)) ?_; clear E a; intro a E
        refine Run.call (args := [.agg #[.int .i64 t.kind, .int .i64 t.node, .int .i64 t.phase, .int .i64 t.pos, .int .i64 t.start, .int .i64 t.depth, .int .i64 t.org, .slice D14 t.caps.length e15], .agg #[.int .i64 y.s.kind, .int .i64 y.s.node, .int .i64 y.s.phase, .int .i64 y.s.pos, .int .i64 y.s.start, .int .i64 y.s.depth, .int .i64 y.s.org, .slice y.A y.s.caps.length y.c]]) rfl rfl E rfl rfl Try.func42 nm42 rfl rfl (same_walk (s := t) (t := y.s) (S.rd 1 rfl) (S.rowsRd (q := y.irow) 15 rfl (List.mem_map.2 ⟨y, List.mem_of_getElem? hy, rfl⟩)) (by omega)) ?_; rintro e_ w ⟨rfl, B_⟩; refine ⟨_, rfl, fun _ => B_, ?_⟩; clear E a; replace S := S.bel B_; intro a E
        clear B_
        replace E := E.setb 100 rfl (decide_eq_true hys.symm)
        refine Run.not rfl E rfl rfl rfl rfl ?_; clear E a; intro a E
        refine Run.pickF rfl E rfl rfl rfl rfl ?_; clear E a; intro a E
        refine Run.nil ?_
        refine then_n ?_
        refine cond_F E rfl ?_
        refine wp_skip ?_
        refine blk_n ?_
        refine then_n ?_
        refine region_plain (n := 2) [(0, .p), (1, .p)] rfl rfl ?_
        refine Run.add rfl E rfl rfl rfl rfl (i64_ok (by omega)) ?_; clear E a; intro a E
        refine Run.move rfl E rfl rfl rfl ?_; clear E a; intro a E
        refine Run.nil ?_
        refine then_n ?_
        replace E := E.setv 72 rfl (show Value.int .i64 ((i : Int) + 1) = .int .i64 ((i + 1 : Nat) : Int) from rfl)
        have S : St _ _ _ [_, _, _, _, _, _, _, _, _, _, _, _, _, _, _, _] := S.sel [0, 1, 2, 3, 4, 5, 6, 7, 8, 9, 10, 11, 12, 13, 14, 15] _ rfl (by kernel_rfl)
        have S := S.drop1.drop1.drop1.drop1
        exact ⟨_, (by omega), (i + 1), rfl, E.keeps [(3, _), (6, _), (7, _), (8, _), (71, _), (72, _)] ⟨rfl, rfl, rfl, rfl, rfl, rfl, trivial⟩, S, (by omega)⟩
    · skip
      refine Run.lss rfl E rfl rfl rfl rfl (decide_eq_false (by omega)) ?_; clear E a; intro a E
      refine Run.nil ?_
      refine then_n ?_
      refine wp_seq ?_
      refine cond_F E rfl ?_
      refine wp_exit ?_
      refine then_x ?_
      refine then_x ?_
      refine blk_x ?_
      refine then_n ?_
      refine wp_seq ?_
      refine region_plain (n := 1) [(0, .l)] rfl rfl ?_
      refine Run.store (news := [.bool true]) (cs' := [_]) (hp' := [_, _, _, _, _, _, _, _, _, _, _, _]) 8 rfl E S rfl rfl rfl rfl rfl sz4 rfl rfl rfl rfl ?_; clear S; intro w S
      refine Run.nil ?_
      refine then_n ?_
      refine wp_ret ?_
      have hKD : _ = some (Obj.deferred (some [])) := (S.chg.block D (Array.getElem?_eq_some_iff.1 hK).1 (fun hm => by obtain ⟨o, h, hc⟩ := fps_cells hI0.all D hm; rw [hK] at h; cases h; cases hc)).trans hK
      have S2 := (St.call (A := _) (R := []) (by simpa using hI0) S).taken (o' := .deferred none) (by omega) hKD
      exact retMcD E hKD Try.results19 rfl (run_loadVarOne one4 (S2.objCell 8 0 rfl rfl)) ⟨rfl, S2.belT⟩
  · intro D c_ pre W hD hI hK
    have E : EnvD [{ target := .collected D, args := #[] }] 104 [(3, .pointer (some ⟨b1, 0, none⟩)), (5, .pointer (some ⟨b2, 0, none⟩)), (6, .pointer (some ⟨b3, 0, none⟩)), (7, .pointer (some ⟨g, 0, none⟩)), (8, .pointer (some ⟨b4, 0, none⟩)), (9, .pointer (some ⟨b5, 0, none⟩))] { a with defers := { target := .collected D, args := #[] } :: a.defers } := by
      have h := E0.deferred (ds' := { target := .collected D, args := #[] } :: a.defers)
      rw [E0.defers] at h ⊢; exact h
    generalize ({ a with defers := { target := .collected D, args := #[] } :: a.defers } : Act) = a1 at E ⊢
    clear E0 hgf
    clear a; rename Act => a
    have hI0 := hI; clear hI
    obtain ⟨rfl, hI0, hst⟩ := hI0
    have S := St.start _ hI0.all hI0.nodup
    refine (wpIn_wide (n := 3)).2 ?_
    refine wp_exit ?_
    refine blk_x ?_
    refine then_n ?_
    refine wp_seq ?_
    refine wp_seq ?_
    refine region_plain (n := 9) [(0, .l), (1, .l), (2, .p), (3, .p), (4, .p), (5, .l), (6, .l), (7, .p), (8, .p)] rfl rfl ?_
    refine Run.load1 rfl rfl E S rfl rfl rfl one3 (fun _ s => s.objCell 0 0 rfl rfl) ?_; clear E a; intro a E
    refine Run.load1 rfl rfl E S rfl rfl rfl one50 (fun _ s => s.objCell 9 0 rfl rfl) ?_; clear E a; intro a E
    refine Run.len rfl E rfl rfl rfl Try.underlying50 ?_; clear E a; intro a E
    by_cases hnn : pre.length = own.length
    · skip
      refine Run.nei rfl E rfl rfl rfl rfl (decide_eq_false (fun h => h (by rw [hnn]))) ?_; clear E a; intro a E
      refine Run.move rfl E rfl rfl rfl ?_; clear E a; intro a E
      refine Run.off rfl E rfl rfl ?_; clear E a; intro a E
      refine Run.off rfl E rfl rfl ?_; clear E a; intro a E
      refine Run.off rfl E rfl rfl ?_; clear E a; intro a E
      refine Run.pickF rfl E rfl rfl rfl rfl ?_; clear E a; intro a E
      refine Run.nil ?_
      refine then_n ?_
      refine cond_F E rfl ?_
      refine wp_skip ?_
      refine then_n ?_
      refine wp_seq ?_
      refine wp_seq ?_
      refine region_plain (n := 3) [(0, .l), (1, .p), (2, .p)] rfl rfl ?_
      refine Run.load1 rfl rfl E S rfl rfl rfl one50 (fun _ s => s.objCell 9 0 rfl rfl) ?_; clear E a; intro a E
      refine Run.len rfl E rfl rfl rfl Try.underlying50 ?_; clear E a; intro a E
      refine Run.move rfl E rfl rfl rfl ?_; clear E a; intro a E
      refine Run.nil ?_
      refine then_n ?_
      refine wp_block ?_
      refine wp_loop_ghost (fun n_ a w => ∃ i : Nat, own.length - i = n_ ∧ EnvD [{ target := .collected D, args := #[] }] 104 [(3, .pointer (some ⟨b1, 0, none⟩)), (6, .pointer (some ⟨b3, 0, none⟩)), (7, .pointer (some ⟨g, 0, none⟩)), (8, .pointer (some ⟨b4, 0, none⟩)), (71, .int .i64 (own.length : Int)), (72, .int .i64 (i : Int))] a ∧ St _ _ w [.obj b5 3 [.int .i64 (pre.length : Int)], .obj bx6 24 [.pointer (some ⟨g, 0, none⟩)], .obj g 128 [.int .i64 (G : Int), .int .i64 (ev : Int), .int .i64 lim, .slice A ((tbytes G ev ts).length) c, .slice B ((tstarts G ev ts).length) d, .int .i64 ((lastS ts).kind), .int .i64 ((lastS ts).node), .int .i64 ((lastS ts).phase), .int .i64 ((lastS ts).pos), .int .i64 ((lastS ts).start), .int .i64 ((lastS ts).depth), .int .i64 ((lastS ts).org), .slice C ((lastS ts).caps.length) e], .row (.slice A ((tbytes G ev ts).length) c) 5 1 ((tbytes G ev ts).length) (u8s (tbytes G ev ts)), .row (.slice B ((tstarts G ev ts).length) d) 3 1 ((tstarts G ev ts).length) (ints (tstarts G ev ts)), .row (.slice C ((lastS ts).caps.length) e) 3 1 ((lastS ts).caps.length) (ints (lastS ts).caps), .obj b1 102 [.int .i64 (G : Int), .int .i64 (ev : Int), .int .i64 lim], .obj b2 3 [.int .i64 stop], .obj b3 4 [.bool false], .obj b4 50 [.slice O own.length cO], .row (.slice O own.length cO) 34 8 own.length (stams own), .rows (own.map StaM.irow)] ∧ (i ≤ own.length)) _ ⟨0, rfl, E.keeps [(3, _), (6, _), (7, _), (8, _), (71, _), (72, _)] ⟨rfl, rfl, rfl, rfl, rfl, rfl, trivial⟩, S, Nat.zero_le _⟩ ?_
      clear E a S
      rintro n_ a w ⟨i, rfl, E, S, hi⟩
      refine wp_seq ?_
      refine region_plain (n := 1) [(0, .p)] rfl rfl ?_
      by_cases hlt : i < own.length
      · skip
        obtain ⟨t, ht⟩ : ∃ t, ts[i]? = some t := ⟨_, List.getElem?_eq_getElem (by omega)⟩
        have htc := right_capl (hok.right t (List.mem_of_getElem? ht))
        obtain ⟨y, hy, hys⟩ := own_get hown ht
        have hyc : y.s.caps.length = t.caps.length := by rw [hys]
        obtain ⟨bO, rfl⟩ := S.rowAddr 10 rfl (by omega)
        refine Run.lss rfl E rfl rfl rfl rfl (decide_eq_true (by omega)) ?_; clear E a; intro a E
        refine Run.nil ?_
        refine then_n ?_
        refine wp_seq ?_
        refine cond_T E rfl ?_
        refine wp_skip ?_
        refine then_n ?_
        refine wp_seq ?_
        refine wp_block ?_
        refine wp_seq ?_
        refine region_plain (n := 2) [(0, .p), (1, .p)] rfl rfl ?_
        refine Run.move rfl E rfl rfl rfl ?_; clear E a; intro a E
        refine Run.assign rfl E rfl rfl rfl ?_; clear E a; intro a E
        refine Run.nil ?_
        refine then_n ?_
        refine wp_seq ?_
        refine region_plain (n := 5) [(0, .p), (1, .l), (2, .e), (3, .e), (4, .l)] rfl rfl ?_
        refine Run.fieldAddr rfl E rfl rfl rfl fo102_0 (rfl) ?_; clear E a; intro a E
        refine Run.load1 rfl rfl E S rfl rfl rfl one3 (fun _ s => s.objCell 6 0 rfl rfl) ?_; clear E a; intro a E
        refine Run.call (args := [.int .i64 (G : Int)]) rfl rfl E rfl rfl Try.func78 nm78 rfl rfl (blankS_walk hbl hG) ?_; rintro e_ w ⟨P17, q18, rfl, S_⟩; refine ⟨_, rfl, (fun _ => S_.belT), ?_⟩; clear E a; intro a E
        replace S : St _ _ _ [_, .obj _ _ [_], .obj _ _ [_], .obj _ _ [_, _, _, _, _, _, _, _, _, _, _, _, _], _, _, _, .obj _ _ [_, _, _], .obj _ _ [_], .obj _ _ [_], .obj _ _ [_], _, _] := St.call (A := []) (R := [_, _, _, _, _, _, _, _, _, _, _, _]) S S_; clear S_
        refine Run.alloc rfl rfl E S rfl rfl z34 rfl ?_; clear E a S; intro b19 w a E S B_; clear B_
        refine Run.store (news := [.int .i64 bl.kind, .int .i64 bl.node, .int .i64 bl.phase, .int .i64 bl.pos, .int .i64 bl.start, .int .i64 bl.depth, .int .i64 bl.org, .slice P17 bl.caps.length q18]) (cs' := [_, _, _, _, _, _, _, _]) (hp' := [_, _, _, _, _, _, _, _, _, _, _, _, _, _]) 0 rfl E S rfl rfl rfl rfl rfl sz34 rfl rfl rfl rfl ?_; clear S; intro w S
        refine Run.nil ?_
        refine then_n ?_
        refine wp_seq ?_
        refine wp_seq ?_
        refine region_plain (n := 2) [(0, .p), (1, .p)] rfl rfl ?_
        refine Run.move rfl E rfl rfl rfl ?_; clear E a; intro a E
        by_cases hi0 : 0 < i
        · skip
          obtain ⟨t1, ht1⟩ : ∃ t, ts[i - 1]? = some t := ⟨_, List.getElem?_eq_getElem (by omega)⟩
          obtain ⟨y1, hy1, hys1⟩ := own_get hown ht1
          subst hys1
          have hu := wa_at (G := G) (ev := ev) ht1
          rw [show i - 1 + 1 = i by omega] at hu
          refine Run.gtr rfl E rfl rfl rfl rfl (decide_eq_true (by omega)) ?_; clear E a; intro a E
          refine Run.nil ?_
          refine then_n ?_
          refine cond_T E rfl ?_
          refine region_plain (n := 6) [(0, .l), (1, .p), (2, .p), (3, .p), (4, .l), (5, .l)] rfl rfl ?_
          refine Run.load1 rfl rfl E S rfl rfl rfl one50 (fun _ s => s.objCell 11 0 rfl rfl) ?_; clear E a; intro a E
          refine Run.move rfl E rfl rfl rfl ?_; clear E a; intro a E
          refine Run.sub rfl E rfl rfl rfl rfl (i64_ok (by omega)) ?_; clear E a; intro a E
          refine Run.indexAddr rfl E rfl rfl rfl rfl Try.underlying50 sz34 (by omega) (ix_at (m' := (i - 1)) (o := (i - 1) * 8) (by omega) rfl) ?_; clear E a; intro a E
          refine Run.loadN (cs := [.int .i64 y1.s.kind, .int .i64 y1.s.node, .int .i64 y1.s.phase, .int .i64 y1.s.pos, .int .i64 y1.s.start, .int .i64 y1.s.depth, .int .i64 y1.s.org, .slice y1.A y1.s.caps.length y1.c]) rfl rfl E S rfl rfl rfl ag34 rfl (fun _ s_ => rowAt s_ 12 _ _ rfl (stams_get hy1)) ?_; clear E a; intro a E
          refine Run.store (news := [.int .i64 y1.s.kind, .int .i64 y1.s.node, .int .i64 y1.s.phase, .int .i64 y1.s.pos, .int .i64 y1.s.start, .int .i64 y1.s.depth, .int .i64 y1.s.org, .slice y1.A y1.s.caps.length y1.c]) (cs' := [_, _, _, _, _, _, _, _]) (hp' := [_, _, _, _, _, _, _, _, _, _, _, _, _, _]) 0 rfl E S rfl rfl rfl rfl rfl sz34 rfl rfl rfl rfl ?_; clear S; intro w S
          refine Run.nil ?_
          refine then_n ?_
          refine wp_seq ?_
          refine region_plain (n := 10) [(0, .p), (1, .l), (2, .p), (3, .e), (4, .p), (5, .p), (6, .p), (7, .e), (8, .l), (9, .p)] rfl rfl ?_
          refine Run.move rfl E rfl rfl rfl ?_; clear E a; intro a E
          refine Run.loadN (cs := [.int .i64 y1.s.kind, .int .i64 y1.s.node, .int .i64 y1.s.phase, .int .i64 y1.s.pos, .int .i64 y1.s.start, .int .i64 y1.s.depth, .int .i64 y1.s.org, .slice y1.A y1.s.caps.length y1.c]) rfl rfl E S rfl rfl rfl ag34 rfl (fun _ s => objAll s 0 rfl) ?_; clear E a; intro a E
          refine Run.move rfl E rfl rfl rfl ?_; clear E a; intro a E
          refine Run.call (args := [.pointer (some ⟨g, 0, none⟩), .agg #[.int .i64 y1.s.kind, .int .i64 y1.s.node, .int .i64 y1.s.phase, .int .i64 y1.s.pos, .int .i64 y1.s.start, .int .i64 y1.s.depth, .int .i64 y1.s.org, .slice y1.A y1.s.caps.length y1.c], .int .i64 (i : Int)]) rfl rfl E rfl rfl Try.func79 nm79 rfl rfl (tafter_walk (u := y1.s) (k := i) (St.holdsL (A := [.obj g 128 [.int .i64 (G : Int), .int .i64 (ev : Int), .int .i64 lim, .slice A ((tbytes G ev ts).length) c, .slice B ((tstarts G ev ts).length) d, .int .i64 ((lastS ts).kind), .int .i64 ((lastS ts).node), .int .i64 ((lastS ts).phase), .int .i64 ((lastS ts).pos), .int .i64 ((lastS ts).start), .int .i64 ((lastS ts).depth), .int .i64 ((lastS ts).org), .slice C ((lastS ts).caps.length) e], .row (.slice A ((tbytes G ev ts).length) c) 5 1 ((tbytes G ev ts).length) (u8s (tbytes G ev ts)), .row (.slice B ((tstarts G ev ts).length) d) 3 1 ((tstarts G ev ts).length) (ints (tstarts G ev ts)), .row (.slice C ((lastS ts).caps.length) e) 3 1 ((lastS ts).caps.length) (ints (lastS ts).caps)]) (R := [_, _, _, _, _, _, _, _, _, _]) (S.sel [4, 5, 6, 7, 0, 1, 2, 3, 8, 9, 10, 11, 12, 13] ([.obj g 128 [.int .i64 (G : Int), .int .i64 (ev : Int), .int .i64 lim, .slice A ((tbytes G ev ts).length) c, .slice B ((tstarts G ev ts).length) d, .int .i64 ((lastS ts).kind), .int .i64 ((lastS ts).node), .int .i64 ((lastS ts).phase), .int .i64 ((lastS ts).pos), .int .i64 ((lastS ts).start), .int .i64 ((lastS ts).depth), .int .i64 ((lastS ts).org), .slice C ((lastS ts).caps.length) e], .row (.slice A ((tbytes G ev ts).length) c) 5 1 ((tbytes G ev ts).length) (u8s (tbytes G ev ts)), .row (.slice B ((tstarts G ev ts).length) d) 3 1 ((tstarts G ev ts).length) (ints (tstarts G ev ts)), .row (.slice C ((lastS ts).caps.length) e) 3 1 ((lastS ts).caps.length) (ints (lastS ts).caps)] ++ [_, _, _, _, _, _, _, _, _, _]) rfl (by kernel_rfl))) hok hlim hl1 ht (hu.imp_right (fun h_ => ⟨h_, S.rowsRd (q := y1.irow) 13 rfl (List.mem_map.2 ⟨y1, List.mem_of_getElem? hy1, rfl⟩)⟩))) ?_; rintro e_ w ⟨D20, e21, rfl, S_⟩; refine ⟨_, rfl, (fun _ => S_.belT), ?_⟩; clear E a; intro a E
          replace S : St _ _ _ [_, .obj _ _ [_, _, _, _, _, _, _, _], _, .obj _ _ [_], .obj _ _ [_], .obj _ _ [_, _, _, _, _, _, _, _, _, _, _, _, _], _, _, _, .obj _ _ [_, _, _], .obj _ _ [_], .obj _ _ [_], .obj _ _ [_], _, _] := St.call (A := []) (R := [_, _, _, _, _, _, _, _, _, _, _, _, _, _]) S S_; clear S_
          refine Run.move rfl E rfl rfl rfl ?_; clear E a; intro a E
          refine Run.extract rfl E rfl rfl rfl rfl ?_; clear E a; intro a E
          refine Run.extract rfl E rfl rfl rfl rfl ?_; clear E a; intro a E
          refine Run.alloc rfl rfl E S rfl rfl z34 rfl ?_; clear E a S; intro b22 w a E S B_; clear B_
          refine Run.store (news := [.int .i64 t.kind, .int .i64 t.node, .int .i64 t.phase, .int .i64 t.pos, .int .i64 t.start, .int .i64 t.depth, .int .i64 t.org, .slice D20 t.caps.length e21]) (cs' := [_, _, _, _, _, _, _, _]) (hp' := [_, _, _, _, _, _, _, _, _, _, _, _, _, _, _, _]) 0 rfl E S rfl rfl rfl rfl rfl sz34 rfl rfl rfl rfl ?_; clear S; intro w S
          refine Run.assign rfl E rfl rfl rfl ?_; clear E a; intro a E
          refine Run.nil ?_
          refine then_n ?_
          refine wp_seq ?_
          refine region_drawS (n := 11) [(0, .p), (1, .p), (2, .p), (5, .p), (3, .t), (4, .t), (6, .p), (7, .t), (8, .e), (9, .p), (10, .p)] [0, 1, 3, 7, 7, 7, 55, 119, 255, 511, 1023] S mixed rfl rfl (by kernel_rfl) (fun _ _ _ _ _ h => h) ?_; clear S; intro w S B_; clear B_
          refine Run.move rfl E rfl rfl rfl ?_; clear E a; intro a E
          refine Run.nei rfl E rfl rfl rfl rfl (b := false) (by decide) ?_; clear E a; intro a E
          refine Run.move rfl E rfl rfl rfl ?_; clear E a; intro a E
          refine Run.move rfl E rfl rfl rfl ?_; clear E a; intro a E
          refine Run.loadN (cs := [.int .i64 t.kind, .int .i64 t.node, .int .i64 t.phase, .int .i64 t.pos, .int .i64 t.start, .int .i64 t.depth, .int .i64 t.org, .slice D20 t.caps.length e21]) rfl rfl E S rfl rfl rfl ag34 rfl (fun _ s => objAll s 0 rfl) ?_; clear E a; intro a E
          refine Run.load1 rfl rfl E S rfl rfl rfl one50 (fun _ s => s.objCell 13 0 rfl rfl) ?_; clear E a; intro a E
          refine Run.indexAddr rfl E rfl rfl rfl rfl Try.underlying50 sz34 (by omega) (ix_at (m' := i) (o := i * 8) (by omega) rfl) ?_; clear E a; intro a E
          refine Run.loadN (cs := [.int .i64 y.s.kind, .int .i64 y.s.node, .int .i64 y.s.phase, .int .i64 y.s.pos, .int .i64 y.s.start, .int .i64 y.s.depth, .int .i64 y.s.org, .slice y.A y.s.caps.length y.c]) rfl rfl E S rfl rfl rfl ag34 rfl (fun _ s_ => rowAt s_ 14 _ _ rfl (stams_get hy)) ?_; clear E a; intro a E
          refine Run.call (args := [.agg #[.int .i64 t.kind, .int .i64 t.node, .int .i64 t.phase, .int .i64 t.pos, .int .i64 t.start, .int .i64 t.depth, .int .i64 t.org, .slice D20 t.caps.length e21], .agg #[.int .i64 y.s.kind, .int .i64 y.s.node, .int .i64 y.s.phase, .int .i64 y.s.pos, .int .i64 y.s.start, .int .i64 y.s.depth, .int .i64 y.s.org, .slice y.A y.s.caps.length y.c]]) rfl rfl E rfl rfl Try.func42 nm42 rfl rfl (same_walk (s := t) (t := y.s) (S.rd 1 rfl) (S.rowsRd (q := y.irow) 15 rfl (List.mem_map.2 ⟨y, List.mem_of_getElem? hy, rfl⟩)) (by omega)) ?_; rintro e_ w ⟨rfl, B_⟩; refine ⟨_, rfl, fun _ => B_, ?_⟩; clear E a; replace S := S.bel B_; intro a E
          clear B_
          replace E := E.setb 100 rfl (decide_eq_true hys.symm)
          refine Run.not rfl E rfl rfl rfl rfl ?_; clear E a; intro a E
          refine Run.pickF rfl E rfl rfl rfl rfl ?_; clear E a; intro a E
          refine Run.nil ?_
          refine then_n ?_
          refine cond_F E rfl ?_
          refine wp_skip ?_
          refine blk_n ?_
          refine then_n ?_
          refine region_plain (n := 2) [(0, .p), (1, .p)] rfl rfl ?_
          refine Run.add rfl E rfl rfl rfl rfl (i64_ok (by omega)) ?_; clear E a; intro a E
          refine Run.move rfl E rfl rfl rfl ?_; clear E a; intro a E
          refine Run.nil ?_
          refine then_n ?_
          replace E := E.setv 72 rfl (show Value.int .i64 ((i : Int) + 1) = .int .i64 ((i + 1 : Nat) : Int) from rfl)
          have S : St _ _ _ [_, _, _, _, _, _, _, _, _, _, _, _, _, _, _, _] := S.sel [0, 1, 2, 3, 4, 5, 6, 7, 8, 9, 10, 11, 12, 13, 14, 15] _ rfl (by kernel_rfl)
          have S := S.drop1.drop1.drop1.drop1
          exact ⟨_, (by omega), (i + 1), rfl, E.keeps [(3, _), (6, _), (7, _), (8, _), (71, _), (72, _)] ⟨rfl, rfl, rfl, rfl, rfl, rfl, trivial⟩, S, (by omega)⟩
        · skip
          have hz : i % ev = 0 := by rw [show i = 0 by omega]; exact Nat.zero_mod _
          refine Run.gtr rfl E rfl rfl rfl rfl (decide_eq_false (by omega)) ?_; clear E a; intro a E
          refine Run.nil ?_
          refine then_n ?_
          refine cond_F E rfl ?_
          refine wp_skip ?_
          refine then_n ?_
          refine wp_seq ?_
          refine region_plain (n := 10) [(0, .p), (1, .l), (2, .p), (3, .e), (4, .p), (5, .p), (6, .p), (7, .e), (8, .l), (9, .p)] rfl rfl ?_
          refine Run.move rfl E rfl rfl rfl ?_; clear E a; intro a E
          refine Run.loadN (cs := [.int .i64 bl.kind, .int .i64 bl.node, .int .i64 bl.phase, .int .i64 bl.pos, .int .i64 bl.start, .int .i64 bl.depth, .int .i64 bl.org, .slice P17 bl.caps.length q18]) rfl rfl E S rfl rfl rfl ag34 rfl (fun _ s => objAll s 0 rfl) ?_; clear E a; intro a E
          refine Run.move rfl E rfl rfl rfl ?_; clear E a; intro a E
          refine Run.call (args := [.pointer (some ⟨g, 0, none⟩), .agg #[.int .i64 bl.kind, .int .i64 bl.node, .int .i64 bl.phase, .int .i64 bl.pos, .int .i64 bl.start, .int .i64 bl.depth, .int .i64 bl.org, .slice P17 bl.caps.length q18], .int .i64 (i : Int)]) rfl rfl E rfl rfl Try.func79 nm79 rfl rfl (tafter_walk (u := bl) (k := i) (St.holdsL (A := [.obj g 128 [.int .i64 (G : Int), .int .i64 (ev : Int), .int .i64 lim, .slice A ((tbytes G ev ts).length) c, .slice B ((tstarts G ev ts).length) d, .int .i64 ((lastS ts).kind), .int .i64 ((lastS ts).node), .int .i64 ((lastS ts).phase), .int .i64 ((lastS ts).pos), .int .i64 ((lastS ts).start), .int .i64 ((lastS ts).depth), .int .i64 ((lastS ts).org), .slice C ((lastS ts).caps.length) e], .row (.slice A ((tbytes G ev ts).length) c) 5 1 ((tbytes G ev ts).length) (u8s (tbytes G ev ts)), .row (.slice B ((tstarts G ev ts).length) d) 3 1 ((tstarts G ev ts).length) (ints (tstarts G ev ts)), .row (.slice C ((lastS ts).caps.length) e) 3 1 ((lastS ts).caps.length) (ints (lastS ts).caps)]) (R := [_, _, _, _, _, _, _, _, _, _]) (S.sel [4, 5, 6, 7, 0, 1, 2, 3, 8, 9, 10, 11, 12, 13] ([.obj g 128 [.int .i64 (G : Int), .int .i64 (ev : Int), .int .i64 lim, .slice A ((tbytes G ev ts).length) c, .slice B ((tstarts G ev ts).length) d, .int .i64 ((lastS ts).kind), .int .i64 ((lastS ts).node), .int .i64 ((lastS ts).phase), .int .i64 ((lastS ts).pos), .int .i64 ((lastS ts).start), .int .i64 ((lastS ts).depth), .int .i64 ((lastS ts).org), .slice C ((lastS ts).caps.length) e], .row (.slice A ((tbytes G ev ts).length) c) 5 1 ((tbytes G ev ts).length) (u8s (tbytes G ev ts)), .row (.slice B ((tstarts G ev ts).length) d) 3 1 ((tstarts G ev ts).length) (ints (tstarts G ev ts)), .row (.slice C ((lastS ts).caps.length) e) 3 1 ((lastS ts).caps.length) (ints (lastS ts).caps)] ++ [_, _, _, _, _, _, _, _, _, _]) rfl (by kernel_rfl))) hok hlim hl1 ht (.inl hz)) ?_; rintro e_ w ⟨D23, e24, rfl, S_⟩; refine ⟨_, rfl, (fun _ => S_.belT), ?_⟩; clear E a; intro a E
          replace S : St _ _ _ [_, .obj _ _ [_, _, _, _, _, _, _, _], _, .obj _ _ [_], .obj _ _ [_], .obj _ _ [_, _, _, _, _, _, _, _, _, _, _, _, _], _, _, _, .obj _ _ [_, _, _], .obj _ _ [_], .obj _ _ [_], .obj _ _ [_], _, _] := St.call (A := []) (R := [_, _, _, _, _, _, _, _, _, _, _, _, _, _]) S S_; clear S_
          refine Run.move rfl E rfl rfl rfl ?_; clear E a; intro a E
          refine Run.extract rfl E rfl rfl rfl rfl ?_; clear E a; intro a E
          refine Run.extract rfl E rfl rfl rfl rfl ?_; clear E a; intro a E
          refine Run.alloc rfl rfl E S rfl rfl z34 rfl ?_; clear E a S; intro b25 w a E S B_; clear B_
          refine Run.store (news := [.int .i64 t.kind, .int .i64 t.node, .int .i64 t.phase, .int .i64 t.pos, .int .i64 t.start, .int .i64 t.depth, .int .i64 t.org, .slice D23 t.caps.length e24]) (cs' := [_, _, _, _, _, _, _, _]) (hp' := [_, _, _, _, _, _, _, _, _, _, _, _, _, _, _, _]) 0 rfl E S rfl rfl rfl rfl rfl sz34 rfl rfl rfl rfl ?_; clear S; intro w S
          refine Run.assign rfl E rfl rfl rfl ?_; clear E a; intro a E
          refine Run.nil ?_
          refine then_n ?_
          refine wp_seq ?_
          refine region_drawS (n := 11) [(0, .p), (1, .p), (2, .p), (5, .p), (3, .t), (4, .t), (6, .p), (7, .t), (8, .e), (9, .p), (10, .p)] [0, 1, 3, 7, 7, 7, 55, 119, 255, 511, 1023] S mixed rfl rfl (by kernel_rfl) (fun _ _ _ _ _ h => h) ?_; clear S; intro w S B_; clear B_
          refine Run.move rfl E rfl rfl rfl ?_; clear E a; intro a E
          refine Run.nei rfl E rfl rfl rfl rfl (b := false) (by decide) ?_; clear E a; intro a E
          refine Run.move rfl E rfl rfl rfl ?_; clear E a; intro a E
          refine Run.move rfl E rfl rfl rfl ?_; clear E a; intro a E
          refine Run.loadN (cs := [.int .i64 t.kind, .int .i64 t.node, .int .i64 t.phase, .int .i64 t.pos, .int .i64 t.start, .int .i64 t.depth, .int .i64 t.org, .slice D23 t.caps.length e24]) rfl rfl E S rfl rfl rfl ag34 rfl (fun _ s => objAll s 0 rfl) ?_; clear E a; intro a E
          refine Run.load1 rfl rfl E S rfl rfl rfl one50 (fun _ s => s.objCell 13 0 rfl rfl) ?_; clear E a; intro a E
          refine Run.indexAddr rfl E rfl rfl rfl rfl Try.underlying50 sz34 (by omega) (ix_at (m' := i) (o := i * 8) (by omega) rfl) ?_; clear E a; intro a E
          refine Run.loadN (cs := [.int .i64 y.s.kind, .int .i64 y.s.node, .int .i64 y.s.phase, .int .i64 y.s.pos, .int .i64 y.s.start, .int .i64 y.s.depth, .int .i64 y.s.org, .slice y.A y.s.caps.length y.c]) rfl rfl E S rfl rfl rfl ag34 rfl (fun _ s_ => rowAt s_ 14 _ _ rfl (stams_get hy)) ?_; clear E a; intro a E
          refine Run.call (args := [.agg #[.int .i64 t.kind, .int .i64 t.node, .int .i64 t.phase, .int .i64 t.pos, .int .i64 t.start, .int .i64 t.depth, .int .i64 t.org, .slice D23 t.caps.length e24], .agg #[.int .i64 y.s.kind, .int .i64 y.s.node, .int .i64 y.s.phase, .int .i64 y.s.pos, .int .i64 y.s.start, .int .i64 y.s.depth, .int .i64 y.s.org, .slice y.A y.s.caps.length y.c]]) rfl rfl E rfl rfl Try.func42 nm42 rfl rfl (same_walk (s := t) (t := y.s) (S.rd 1 rfl) (S.rowsRd (q := y.irow) 15 rfl (List.mem_map.2 ⟨y, List.mem_of_getElem? hy, rfl⟩)) (by omega)) ?_; rintro e_ w ⟨rfl, B_⟩; refine ⟨_, rfl, fun _ => B_, ?_⟩; clear E a; replace S := S.bel B_; intro a E
          clear B_
          replace E := E.setb 100 rfl (decide_eq_true hys.symm)
          refine Run.not rfl E rfl rfl rfl rfl ?_; clear E a; intro a E
          refine Run.pickF rfl E rfl rfl rfl rfl ?_; clear E a; intro a E
          refine Run.nil ?_
          refine then_n ?_
          refine cond_F E rfl ?_
          refine wp_skip ?_
          refine blk_n ?_
          refine then_n ?_
          refine region_plain (n := 2) [(0, .p), (1, .p)] rfl rfl ?_
          refine Run.add rfl E rfl rfl rfl rfl (i64_ok (by omega)) ?_; clear E a; intro a E
          refine Run.move rfl E rfl rfl rfl ?_; clear E a; intro a E
          refine Run.nil ?_
          refine then_n ?_
          replace E := E.setv 72 rfl (show Value.int .i64 ((i : Int) + 1) = .int .i64 ((i + 1 : Nat) : Int) from rfl)
          have S : St _ _ _ [_, _, _, _, _, _, _, _, _, _, _, _, _, _, _, _] := S.sel [0, 1, 2, 3, 4, 5, 6, 7, 8, 9, 10, 11, 12, 13, 14, 15] _ rfl (by kernel_rfl)
          have S := S.drop1.drop1.drop1.drop1
          exact ⟨_, (by omega), (i + 1), rfl, E.keeps [(3, _), (6, _), (7, _), (8, _), (71, _), (72, _)] ⟨rfl, rfl, rfl, rfl, rfl, rfl, trivial⟩, S, (by omega)⟩
      · skip
        refine Run.lss rfl E rfl rfl rfl rfl (decide_eq_false (by omega)) ?_; clear E a; intro a E
        refine Run.nil ?_
        refine then_n ?_
        refine wp_seq ?_
        refine cond_F E rfl ?_
        refine wp_exit ?_
        refine then_x ?_
        refine then_x ?_
        refine blk_x ?_
        refine then_n ?_
        refine wp_seq ?_
        refine region_plain (n := 1) [(0, .l)] rfl rfl ?_
        refine Run.store (news := [.bool true]) (cs' := [_]) (hp' := [_, _, _, _, _, _, _, _, _, _, _, _]) 8 rfl E S rfl rfl rfl rfl rfl sz4 rfl rfl rfl rfl ?_; clear S; intro w S
        refine Run.nil ?_
        refine then_n ?_
        refine wp_ret ?_
        have hKD : _ = some (Obj.deferred (some [])) := (S.chg.block D (Array.getElem?_eq_some_iff.1 hK).1 (fun hm => by obtain ⟨o, h, hc⟩ := fps_cells hI0.all D hm; rw [hK] at h; cases h; cases hc)).trans hK
        have S2 := (St.call (A := _) (R := []) (by simpa using hI0) S).taken (o' := .deferred none) (by omega) hKD
        exact retMcD E hKD Try.results19 rfl (run_loadVarOne one4 (S2.objCell 8 0 rfl rfl)) ⟨rfl, S2.belT⟩
    · skip
      refine Run.nei rfl E rfl rfl rfl rfl (decide_eq_true (by omega)) ?_; clear E a; intro a E
      refine Run.move rfl E rfl rfl rfl ?_; clear E a; intro a E
      refine Run.load1 rfl rfl E S rfl rfl rfl one3 (fun _ s => s.objCell 0 0 rfl rfl) ?_; clear E a; intro a E
      refine Run.load1 rfl rfl E S rfl rfl rfl one3 (fun _ s => s.objCell 7 0 rfl rfl) ?_; clear E a; intro a E
      refine Run.nei rfl E rfl rfl rfl rfl (decide_eq_false (fun h => h hst)) ?_; clear E a; intro a E
      refine Run.pickT rfl E rfl rfl rfl rfl ?_; clear E a; intro a E
      refine Run.nil ?_
      refine then_n ?_
      refine cond_F E rfl ?_
      refine wp_skip ?_
      refine then_n ?_
      refine wp_seq ?_
      refine wp_seq ?_
      refine region_plain (n := 3) [(0, .l), (1, .p), (2, .p)] rfl rfl ?_
      refine Run.load1 rfl rfl E S rfl rfl rfl one50 (fun _ s => s.objCell 9 0 rfl rfl) ?_; clear E a; intro a E
      refine Run.len rfl E rfl rfl rfl Try.underlying50 ?_; clear E a; intro a E
      refine Run.move rfl E rfl rfl rfl ?_; clear E a; intro a E
      refine Run.nil ?_
      refine then_n ?_
      refine wp_block ?_
      refine wp_loop_ghost (fun n_ a w => ∃ i : Nat, own.length - i = n_ ∧ EnvD [{ target := .collected D, args := #[] }] 104 [(3, .pointer (some ⟨b1, 0, none⟩)), (6, .pointer (some ⟨b3, 0, none⟩)), (7, .pointer (some ⟨g, 0, none⟩)), (8, .pointer (some ⟨b4, 0, none⟩)), (71, .int .i64 (own.length : Int)), (72, .int .i64 (i : Int))] a ∧ St _ _ w [.obj b5 3 [.int .i64 (pre.length : Int)], .obj bx6 24 [.pointer (some ⟨g, 0, none⟩)], .obj g 128 [.int .i64 (G : Int), .int .i64 (ev : Int), .int .i64 lim, .slice A ((tbytes G ev ts).length) c, .slice B ((tstarts G ev ts).length) d, .int .i64 ((lastS ts).kind), .int .i64 ((lastS ts).node), .int .i64 ((lastS ts).phase), .int .i64 ((lastS ts).pos), .int .i64 ((lastS ts).start), .int .i64 ((lastS ts).depth), .int .i64 ((lastS ts).org), .slice C ((lastS ts).caps.length) e], .row (.slice A ((tbytes G ev ts).length) c) 5 1 ((tbytes G ev ts).length) (u8s (tbytes G ev ts)), .row (.slice B ((tstarts G ev ts).length) d) 3 1 ((tstarts G ev ts).length) (ints (tstarts G ev ts)), .row (.slice C ((lastS ts).caps.length) e) 3 1 ((lastS ts).caps.length) (ints (lastS ts).caps), .obj b1 102 [.int .i64 (G : Int), .int .i64 (ev : Int), .int .i64 lim], .obj b2 3 [.int .i64 stop], .obj b3 4 [.bool false], .obj b4 50 [.slice O own.length cO], .row (.slice O own.length cO) 34 8 own.length (stams own), .rows (own.map StaM.irow)] ∧ (i ≤ own.length)) _ ⟨0, rfl, E.keeps [(3, _), (6, _), (7, _), (8, _), (71, _), (72, _)] ⟨rfl, rfl, rfl, rfl, rfl, rfl, trivial⟩, S, Nat.zero_le _⟩ ?_
      clear E a S
      rintro n_ a w ⟨i, rfl, E, S, hi⟩
      refine wp_seq ?_
      refine region_plain (n := 1) [(0, .p)] rfl rfl ?_
      by_cases hlt : i < own.length
      · skip
        obtain ⟨t, ht⟩ : ∃ t, ts[i]? = some t := ⟨_, List.getElem?_eq_getElem (by omega)⟩
        have htc := right_capl (hok.right t (List.mem_of_getElem? ht))
        obtain ⟨y, hy, hys⟩ := own_get hown ht
        have hyc : y.s.caps.length = t.caps.length := by rw [hys]
        obtain ⟨bO, rfl⟩ := S.rowAddr 10 rfl (by omega)
        refine Run.lss rfl E rfl rfl rfl rfl (decide_eq_true (by omega)) ?_; clear E a; intro a E
        refine Run.nil ?_
        refine then_n ?_
        refine wp_seq ?_
        refine cond_T E rfl ?_
        refine wp_skip ?_
        refine then_n ?_
        refine wp_seq ?_
        refine wp_block ?_
        refine wp_seq ?_
        refine region_plain (n := 2) [(0, .p), (1, .p)] rfl rfl ?_
        refine Run.move rfl E rfl rfl rfl ?_; clear E a; intro a E
        refine Run.assign rfl E rfl rfl rfl ?_; clear E a; intro a E
        refine Run.nil ?_
        refine then_n ?_
        refine wp_seq ?_
        refine region_plain (n := 5) [(0, .p), (1, .l), (2, .e), (3, .e), (4, .l)] rfl rfl ?_
        refine Run.fieldAddr rfl E rfl rfl rfl fo102_0 (rfl) ?_; clear E a; intro a E
        refine Run.load1 rfl rfl E S rfl rfl rfl one3 (fun _ s => s.objCell 6 0 rfl rfl) ?_; clear E a; intro a E
        refine Run.call (args := [.int .i64 (G : Int)]) rfl rfl E rfl rfl Try.func78 nm78 rfl rfl (blankS_walk hbl hG) ?_; rintro e_ w ⟨P26, q27, rfl, S_⟩; refine ⟨_, rfl, (fun _ => S_.belT), ?_⟩; clear E a; intro a E
        replace S : St _ _ _ [_, .obj _ _ [_], .obj _ _ [_], .obj _ _ [_, _, _, _, _, _, _, _, _, _, _, _, _], _, _, _, .obj _ _ [_, _, _], .obj _ _ [_], .obj _ _ [_], .obj _ _ [_], _, _] := St.call (A := []) (R := [_, _, _, _, _, _, _, _, _, _, _, _]) S S_; clear S_
        refine Run.alloc rfl rfl E S rfl rfl z34 rfl ?_; clear E a S; intro b28 w a E S B_; clear B_
        refine Run.store (news := [.int .i64 bl.kind, .int .i64 bl.node, .int .i64 bl.phase, .int .i64 bl.pos, .int .i64 bl.start, .int .i64 bl.depth, .int .i64 bl.org, .slice P26 bl.caps.length q27]) (cs' := [_, _, _, _, _, _, _, _]) (hp' := [_, _, _, _, _, _, _, _, _, _, _, _, _, _]) 0 rfl E S rfl rfl rfl rfl rfl sz34 rfl rfl rfl rfl ?_; clear S; intro w S
        refine Run.nil ?_
        refine then_n ?_
        refine wp_seq ?_
        refine wp_seq ?_
        refine region_plain (n := 2) [(0, .p), (1, .p)] rfl rfl ?_
        refine Run.move rfl E rfl rfl rfl ?_; clear E a; intro a E
        by_cases hi0 : 0 < i
        · skip
          obtain ⟨t1, ht1⟩ : ∃ t, ts[i - 1]? = some t := ⟨_, List.getElem?_eq_getElem (by omega)⟩
          obtain ⟨y1, hy1, hys1⟩ := own_get hown ht1
          subst hys1
          have hu := wa_at (G := G) (ev := ev) ht1
          rw [show i - 1 + 1 = i by omega] at hu
          refine Run.gtr rfl E rfl rfl rfl rfl (decide_eq_true (by omega)) ?_; clear E a; intro a E
          refine Run.nil ?_
          refine then_n ?_
          refine cond_T E rfl ?_
          refine region_plain (n := 6) [(0, .l), (1, .p), (2, .p), (3, .p), (4, .l), (5, .l)] rfl rfl ?_
          refine Run.load1 rfl rfl E S rfl rfl rfl one50 (fun _ s => s.objCell 11 0 rfl rfl) ?_; clear E a; intro a E
          refine Run.move rfl E rfl rfl rfl ?_; clear E a; intro a E
          refine Run.sub rfl E rfl rfl rfl rfl (i64_ok (by omega)) ?_; clear E a; intro a E
          refine Run.indexAddr rfl E rfl rfl rfl rfl Try.underlying50 sz34 (by omega) (ix_at (m' := (i - 1)) (o := (i - 1) * 8) (by omega) rfl) ?_; clear E a; intro a E
          refine Run.loadN (cs := [.int .i64 y1.s.kind, .int .i64 y1.s.node, .int .i64 y1.s.phase, .int .i64 y1.s.pos, .int .i64 y1.s.start, .int .i64 y1.s.depth, .int .i64 y1.s.org, .slice y1.A y1.s.caps.length y1.c]) rfl rfl E S rfl rfl rfl ag34 rfl (fun _ s_ => rowAt s_ 12 _ _ rfl (stams_get hy1)) ?_; clear E a; intro a E
          refine Run.store (news := [.int .i64 y1.s.kind, .int .i64 y1.s.node, .int .i64 y1.s.phase, .int .i64 y1.s.pos, .int .i64 y1.s.start, .int .i64 y1.s.depth, .int .i64 y1.s.org, .slice y1.A y1.s.caps.length y1.c]) (cs' := [_, _, _, _, _, _, _, _]) (hp' := [_, _, _, _, _, _, _, _, _, _, _, _, _, _]) 0 rfl E S rfl rfl rfl rfl rfl sz34 rfl rfl rfl rfl ?_; clear S; intro w S
          refine Run.nil ?_
          refine then_n ?_
          refine wp_seq ?_
          refine region_plain (n := 10) [(0, .p), (1, .l), (2, .p), (3, .e), (4, .p), (5, .p), (6, .p), (7, .e), (8, .l), (9, .p)] rfl rfl ?_
          refine Run.move rfl E rfl rfl rfl ?_; clear E a; intro a E
          refine Run.loadN (cs := [.int .i64 y1.s.kind, .int .i64 y1.s.node, .int .i64 y1.s.phase, .int .i64 y1.s.pos, .int .i64 y1.s.start, .int .i64 y1.s.depth, .int .i64 y1.s.org, .slice y1.A y1.s.caps.length y1.c]) rfl rfl E S rfl rfl rfl ag34 rfl (fun _ s => objAll s 0 rfl) ?_; clear E a; intro a E
          refine Run.move rfl E rfl rfl rfl ?_; clear E a; intro a E
          refine Run.call (args := [.pointer (some ⟨g, 0, none⟩), .agg #[.int .i64 y1.s.kind, .int .i64 y1.s.node, .int .i64 y1.s.phase, .int .i64 y1.s.pos, .int .i64 y1.s.start, .int .i64 y1.s.depth, .int .i64 y1.s.org, .slice y1.A y1.s.caps.length y1.c], .int .i64 (i : Int)]) rfl rfl E rfl rfl Try.func79 nm79 rfl rfl (tafter_walk (u := y1.s) (k := i) (St.holdsL (A := [.obj g 128 [.int .i64 (G : Int), .int .i64 (ev : Int), .int .i64 lim, .slice A ((tbytes G ev ts).length) c, .slice B ((tstarts G ev ts).length) d, .int .i64 ((lastS ts).kind), .int .i64 ((lastS ts).node), .int .i64 ((lastS ts).phase), .int .i64 ((lastS ts).pos), .int .i64 ((lastS ts).start), .int .i64 ((lastS ts).depth), .int .i64 ((lastS ts).org), .slice C ((lastS ts).caps.length) e], .row (.slice A ((tbytes G ev ts).length) c) 5 1 ((tbytes G ev ts).length) (u8s (tbytes G ev ts)), .row (.slice B ((tstarts G ev ts).length) d) 3 1 ((tstarts G ev ts).length) (ints (tstarts G ev ts)), .row (.slice C ((lastS ts).caps.length) e) 3 1 ((lastS ts).caps.length) (ints (lastS ts).caps)]) (R := [_, _, _, _, _, _, _, _, _, _]) (S.sel [4, 5, 6, 7, 0, 1, 2, 3, 8, 9, 10, 11, 12, 13] ([.obj g 128 [.int .i64 (G : Int), .int .i64 (ev : Int), .int .i64 lim, .slice A ((tbytes G ev ts).length) c, .slice B ((tstarts G ev ts).length) d, .int .i64 ((lastS ts).kind), .int .i64 ((lastS ts).node), .int .i64 ((lastS ts).phase), .int .i64 ((lastS ts).pos), .int .i64 ((lastS ts).start), .int .i64 ((lastS ts).depth), .int .i64 ((lastS ts).org), .slice C ((lastS ts).caps.length) e], .row (.slice A ((tbytes G ev ts).length) c) 5 1 ((tbytes G ev ts).length) (u8s (tbytes G ev ts)), .row (.slice B ((tstarts G ev ts).length) d) 3 1 ((tstarts G ev ts).length) (ints (tstarts G ev ts)), .row (.slice C ((lastS ts).caps.length) e) 3 1 ((lastS ts).caps.length) (ints (lastS ts).caps)] ++ [_, _, _, _, _, _, _, _, _, _]) rfl (by kernel_rfl))) hok hlim hl1 ht (hu.imp_right (fun h_ => ⟨h_, S.rowsRd (q := y1.irow) 13 rfl (List.mem_map.2 ⟨y1, List.mem_of_getElem? hy1, rfl⟩)⟩))) ?_; rintro e_ w ⟨D29, e30, rfl, S_⟩; refine ⟨_, rfl, (fun _ => S_.belT), ?_⟩; clear E a; intro a E
          replace S : St _ _ _ [_, .obj _ _ [_, _, _, _, _, _, _, _], _, .obj _ _ [_], .obj _ _ [_], .obj _ _ [_, _, _, _, _, _, _, _, _, _, _, _, _], _, _, _, .obj _ _ [_, _, _], .obj _ _ [_], .obj _ _ [_], .obj _ _ [_], _, _] := St.call (A := []) (R := [_, _, _, _, _, _, _, _, _, _, _, _, _, _]) S S_; clear S_
          refine Run.move rfl E rfl rfl rfl ?_; clear E a; intro a E
          refine Run.extract rfl E rfl rfl rfl rfl ?_; clear E a; intro a E
          refine Run.extract rfl E rfl rfl rfl rfl ?_; clear E a; intro a E
          refine Run.alloc rfl rfl E S rfl rfl z34 rfl ?_; clear E a S; intro b31 w a E S B_; clear B_
          refine Run.store (news := [.int .i64 t.kind, .int .i64 t.node, .int .i64 t.phase, .int .i64 t.pos, .int .i64 t.start, .int .i64 t.depth, .int .i64 t.org, .slice D29 t.caps.length e30]) (cs' := [_, _, _, _, _, _, _, _]) (hp' := [_, _, _, _, _, _, _, _, _, _, _, _, _, _, _, _]) 0 rfl E S rfl rfl rfl rfl rfl sz34 rfl rfl rfl rfl ?_; clear S; intro w S
          refine Run.assign rfl E rfl rfl rfl ?_; clear E a; intro a E
          refine Run.nil ?_
          refine then_n ?_
          refine wp_seq ?_
          refine region_drawS (n := 11) [(0, .p), (1, .p), (2, .p), (5, .p), (3, .t), (4, .t), (6, .p), (7, .t), (8, .e), (9, .p), (10, .p)] [0, 1, 3, 7, 7, 7, 55, 119, 255, 511, 1023] S mixed rfl rfl (by kernel_rfl) (fun _ _ _ _ _ h => h) ?_; clear S; intro w S B_; clear B_
          refine Run.move rfl E rfl rfl rfl ?_; clear E a; intro a E
          refine Run.nei rfl E rfl rfl rfl rfl (b := false) (by decide) ?_; clear E a; intro a E
          refine Run.move rfl E rfl rfl rfl ?_; clear E a; intro a E
          refine Run.move rfl E rfl rfl rfl ?_; clear E a; intro a E
          refine Run.loadN (cs := [.int .i64 t.kind, .int .i64 t.node, .int .i64 t.phase, .int .i64 t.pos, .int .i64 t.start, .int .i64 t.depth, .int .i64 t.org, .slice D29 t.caps.length e30]) rfl rfl E S rfl rfl rfl ag34 rfl (fun _ s => objAll s 0 rfl) ?_; clear E a; intro a E
          refine Run.load1 rfl rfl E S rfl rfl rfl one50 (fun _ s => s.objCell 13 0 rfl rfl) ?_; clear E a; intro a E
          refine Run.indexAddr rfl E rfl rfl rfl rfl Try.underlying50 sz34 (by omega) (ix_at (m' := i) (o := i * 8) (by omega) rfl) ?_; clear E a; intro a E
          refine Run.loadN (cs := [.int .i64 y.s.kind, .int .i64 y.s.node, .int .i64 y.s.phase, .int .i64 y.s.pos, .int .i64 y.s.start, .int .i64 y.s.depth, .int .i64 y.s.org, .slice y.A y.s.caps.length y.c]) rfl rfl E S rfl rfl rfl ag34 rfl (fun _ s_ => rowAt s_ 14 _ _ rfl (stams_get hy)) ?_; clear E a; intro a E
          refine Run.call (args := [.agg #[.int .i64 t.kind, .int .i64 t.node, .int .i64 t.phase, .int .i64 t.pos, .int .i64 t.start, .int .i64 t.depth, .int .i64 t.org, .slice D29 t.caps.length e30], .agg #[.int .i64 y.s.kind, .int .i64 y.s.node, .int .i64 y.s.phase, .int .i64 y.s.pos, .int .i64 y.s.start, .int .i64 y.s.depth, .int .i64 y.s.org, .slice y.A y.s.caps.length y.c]]) rfl rfl E rfl rfl Try.func42 nm42 rfl rfl (same_walk (s := t) (t := y.s) (S.rd 1 rfl) (S.rowsRd (q := y.irow) 15 rfl (List.mem_map.2 ⟨y, List.mem_of_getElem? hy, rfl⟩)) (by omega)) ?_; rintro e_ w ⟨rfl, B_⟩; refine ⟨_, rfl, fun _ => B_, ?_⟩; clear E a; replace S := S.bel B_; intro a E
          clear B_
          replace E := E.setb 100 rfl (decide_eq_true hys.symm)
          refine Run.not rfl E rfl rfl rfl rfl ?_; clear E a; intro a E
          refine Run.pickF rfl E rfl rfl rfl rfl ?_; clear E a; intro a E
          refine Run.nil ?_
          refine then_n ?_
          refine cond_F E rfl ?_
          refine wp_skip ?_
          refine blk_n ?_
          refine then_n ?_
          refine region_plain (n := 2) [(0, .p), (1, .p)] rfl rfl ?_
          refine Run.add rfl E rfl rfl rfl rfl (i64_ok (by omega)) ?_; clear E a; intro a E
          refine Run.move rfl E rfl rfl rfl ?_; clear E a; intro a E
          refine Run.nil ?_
          refine then_n ?_
          replace E := E.setv 72 rfl (show Value.int .i64 ((i : Int) + 1) = .int .i64 ((i + 1 : Nat) : Int) from rfl)
          have S : St _ _ _ [_, _, _, _, _, _, _, _, _, _, _, _, _, _, _, _] := S.sel [0, 1, 2, 3, 4, 5, 6, 7, 8, 9, 10, 11, 12, 13, 14, 15] _ rfl (by kernel_rfl)
          have S := S.drop1.drop1.drop1.drop1
          exact ⟨_, (by omega), (i + 1), rfl, E.keeps [(3, _), (6, _), (7, _), (8, _), (71, _), (72, _)] ⟨rfl, rfl, rfl, rfl, rfl, rfl, trivial⟩, S, (by omega)⟩
        · skip
          have hz : i % ev = 0 := by rw [show i = 0 by omega]; exact Nat.zero_mod _
          refine Run.gtr rfl E rfl rfl rfl rfl (decide_eq_false (by omega)) ?_; clear E a; intro a E
          refine Run.nil ?_
          refine then_n ?_
          refine cond_F E rfl ?_
          refine wp_skip ?_
          refine then_n ?_
          refine wp_seq ?_
          refine region_plain (n := 10) [(0, .p), (1, .l), (2, .p), (3, .e), (4, .p), (5, .p), (6, .p), (7, .e), (8, .l), (9, .p)] rfl rfl ?_
          refine Run.move rfl E rfl rfl rfl ?_; clear E a; intro a E
          refine Run.loadN (cs := [.int .i64 bl.kind, .int .i64 bl.node, .int .i64 bl.phase, .int .i64 bl.pos, .int .i64 bl.start, .int .i64 bl.depth, .int .i64 bl.org, .slice P26 bl.caps.length q27]) rfl rfl E S rfl rfl rfl ag34 rfl (fun _ s => objAll s 0 rfl) ?_; clear E a; intro a E
          refine Run.move rfl E rfl rfl rfl ?_; clear E a; intro a E
          refine Run.call (args := [.pointer (some ⟨g, 0, none⟩), .agg #[.int .i64 bl.kind, .int .i64 bl.node, .int .i64 bl.phase, .int .i64 bl.pos, .int .i64 bl.start, .int .i64 bl.depth, .int .i64 bl.org, .slice P26 bl.caps.length q27], .int .i64 (i : Int)]) rfl rfl E rfl rfl Try.func79 nm79 rfl rfl (tafter_walk (u := bl) (k := i) (St.holdsL (A := [.obj g 128 [.int .i64 (G : Int), .int .i64 (ev : Int), .int .i64 lim, .slice A ((tbytes G ev ts).length) c, .slice B ((tstarts G ev ts).length) d, .int .i64 ((lastS ts).kind), .int .i64 ((lastS ts).node), .int .i64 ((lastS ts).phase), .int .i64 ((lastS ts).pos), .int .i64 ((lastS ts).start), .int .i64 ((lastS ts).depth), .int .i64 ((lastS ts).org), .slice C ((lastS ts).caps.length) e], .row (.slice A ((tbytes G ev ts).length) c) 5 1 ((tbytes G ev ts).length) (u8s (tbytes G ev ts)), .row (.slice B ((tstarts G ev ts).length) d) 3 1 ((tstarts G ev ts).length) (ints (tstarts G ev ts)), .row (.slice C ((lastS ts).caps.length) e) 3 1 ((lastS ts).caps.length) (ints (lastS ts).caps)]) (R := [_, _, _, _, _, _, _, _, _, _]) (S.sel [4, 5, 6, 7, 0, 1, 2, 3, 8, 9, 10, 11, 12, 13] ([.obj g 128 [.int .i64 (G : Int), .int .i64 (ev : Int), .int .i64 lim, .slice A ((tbytes G ev ts).length) c, .slice B ((tstarts G ev ts).length) d, .int .i64 ((lastS ts).kind), .int .i64 ((lastS ts).node), .int .i64 ((lastS ts).phase), .int .i64 ((lastS ts).pos), .int .i64 ((lastS ts).start), .int .i64 ((lastS ts).depth), .int .i64 ((lastS ts).org), .slice C ((lastS ts).caps.length) e], .row (.slice A ((tbytes G ev ts).length) c) 5 1 ((tbytes G ev ts).length) (u8s (tbytes G ev ts)), .row (.slice B ((tstarts G ev ts).length) d) 3 1 ((tstarts G ev ts).length) (ints (tstarts G ev ts)), .row (.slice C ((lastS ts).caps.length) e) 3 1 ((lastS ts).caps.length) (ints (lastS ts).caps)] ++ [_, _, _, _, _, _, _, _, _, _]) rfl (by kernel_rfl))) hok hlim hl1 ht (.inl hz)) ?_; rintro e_ w ⟨D32, e33, rfl, S_⟩; refine ⟨_, rfl, (fun _ => S_.belT), ?_⟩; clear E a; intro a E
          replace S : St _ _ _ [_, .obj _ _ [_, _, _, _, _, _, _, _], _, .obj _ _ [_], .obj _ _ [_], .obj _ _ [_, _, _, _, _, _, _, _, _, _, _, _, _], _, _, _, .obj _ _ [_, _, _], .obj _ _ [_], .obj _ _ [_], .obj _ _ [_], _, _] := St.call (A := []) (R := [_, _, _, _, _, _, _, _, _, _, _, _, _, _]) S S_; clear S_
          refine Run.move rfl E rfl rfl rfl ?_; clear E a; intro a E
          refine Run.extract rfl E rfl rfl rfl rfl ?_; clear E a; intro a E
          refine Run.extract rfl E rfl rfl rfl rfl ?_; clear E a; intro a E
          refine Run.alloc rfl rfl E S rfl rfl z34 rfl ?_; clear E a S; intro b34 w a E S B_; clear B_
          refine Run.store (news := [.int .i64 t.kind, .int .i64 t.node, .int .i64 t.phase, .int .i64 t.pos, .int .i64 t.start, .int .i64 t.depth, .int .i64 t.org, .slice D32 t.caps.length e33]) (cs' := [_, _, _, _, _, _, _, _]) (hp' := [_, _, _, _, _, _, _, _, _, _, _, _, _, _, _, _]) 0 rfl E S rfl rfl rfl rfl rfl sz34 rfl rfl rfl rfl ?_; clear S; intro w S
          refine Run.assign rfl E rfl rfl rfl ?_; clear E a; intro a E
          refine Run.nil ?_
          refine then_n ?_
          refine wp_seq ?_
          refine region_drawS (n := 11) [(0, .p), (1, .p), (2, .p), (5, .p), (3, .t), (4, .t), (6, .p), (7, .t), (8, .e), (9, .p), (10, .p)] [0, 1, 3, 7, 7, 7, 55, 119, 255, 511, 1023] S mixed rfl rfl (by kernel_rfl) (fun _ _ _ _ _ h => h) ?_; clear S; intro w S B_; clear B_
          refine Run.move rfl E rfl rfl rfl ?_; clear E a; intro a E
          refine Run.nei rfl E rfl rfl rfl rfl (b := false) (by decide) ?_; clear E a; intro a E
          refine Run.move rfl E rfl rfl rfl ?_; clear E a; intro a E
          refine Run.move rfl E rfl rfl rfl ?_; clear E a; intro a E
          refine Run.loadN (cs := [.int .i64 t.kind, .int .i64 t.node, .int .i64 t.phase, .int .i64 t.pos, .int .i64 t.start, .int .i64 t.depth, .int .i64 t.org, .slice D32 t.caps.length e33]) rfl rfl E S rfl rfl rfl ag34 rfl (fun _ s => objAll s 0 rfl) ?_; clear E a; intro a E
          refine Run.load1 rfl rfl E S rfl rfl rfl one50 (fun _ s => s.objCell 13 0 rfl rfl) ?_; clear E a; intro a E
          refine Run.indexAddr rfl E rfl rfl rfl rfl Try.underlying50 sz34 (by omega) (ix_at (m' := i) (o := i * 8) (by omega) rfl) ?_; clear E a; intro a E
          refine Run.loadN (cs := [.int .i64 y.s.kind, .int .i64 y.s.node, .int .i64 y.s.phase, .int .i64 y.s.pos, .int .i64 y.s.start, .int .i64 y.s.depth, .int .i64 y.s.org, .slice y.A y.s.caps.length y.c]) rfl rfl E S rfl rfl rfl ag34 rfl (fun _ s_ => rowAt s_ 14 _ _ rfl (stams_get hy)) ?_; clear E a; intro a E
          refine Run.call (args := [.agg #[.int .i64 t.kind, .int .i64 t.node, .int .i64 t.phase, .int .i64 t.pos, .int .i64 t.start, .int .i64 t.depth, .int .i64 t.org, .slice D32 t.caps.length e33], .agg #[.int .i64 y.s.kind, .int .i64 y.s.node, .int .i64 y.s.phase, .int .i64 y.s.pos, .int .i64 y.s.start, .int .i64 y.s.depth, .int .i64 y.s.org, .slice y.A y.s.caps.length y.c]]) rfl rfl E rfl rfl Try.func42 nm42 rfl rfl (same_walk (s := t) (t := y.s) (S.rd 1 rfl) (S.rowsRd (q := y.irow) 15 rfl (List.mem_map.2 ⟨y, List.mem_of_getElem? hy, rfl⟩)) (by omega)) ?_; rintro e_ w ⟨rfl, B_⟩; refine ⟨_, rfl, fun _ => B_, ?_⟩; clear E a; replace S := S.bel B_; intro a E
          clear B_
          replace E := E.setb 100 rfl (decide_eq_true hys.symm)
          refine Run.not rfl E rfl rfl rfl rfl ?_; clear E a; intro a E
          refine Run.pickF rfl E rfl rfl rfl rfl ?_; clear E a; intro a E
          refine Run.nil ?_
          refine then_n ?_
          refine cond_F E rfl ?_
          refine wp_skip ?_
          refine blk_n ?_
          refine then_n ?_
          refine region_plain (n := 2) [(0, .p), (1, .p)] rfl rfl ?_
          refine Run.add rfl E rfl rfl rfl rfl (i64_ok (by omega)) ?_; clear E a; intro a E
          refine Run.move rfl E rfl rfl rfl ?_; clear E a; intro a E
          refine Run.nil ?_
          refine then_n ?_
          replace E := E.setv 72 rfl (show Value.int .i64 ((i : Int) + 1) = .int .i64 ((i + 1 : Nat) : Int) from rfl)
          have S : St _ _ _ [_, _, _, _, _, _, _, _, _, _, _, _, _, _, _, _] := S.sel [0, 1, 2, 3, 4, 5, 6, 7, 8, 9, 10, 11, 12, 13, 14, 15] _ rfl (by kernel_rfl)
          have S := S.drop1.drop1.drop1.drop1
          exact ⟨_, (by omega), (i + 1), rfl, E.keeps [(3, _), (6, _), (7, _), (8, _), (71, _), (72, _)] ⟨rfl, rfl, rfl, rfl, rfl, rfl, trivial⟩, S, (by omega)⟩
      · skip
        refine Run.lss rfl E rfl rfl rfl rfl (decide_eq_false (by omega)) ?_; clear E a; intro a E
        refine Run.nil ?_
        refine then_n ?_
        refine wp_seq ?_
        refine cond_F E rfl ?_
        refine wp_exit ?_
        refine then_x ?_
        refine then_x ?_
        refine blk_x ?_
        refine then_n ?_
        refine wp_seq ?_
        refine region_plain (n := 1) [(0, .l)] rfl rfl ?_
        refine Run.store (news := [.bool true]) (cs' := [_]) (hp' := [_, _, _, _, _, _, _, _, _, _, _, _]) 8 rfl E S rfl rfl rfl rfl rfl sz4 rfl rfl rfl rfl ?_; clear S; intro w S
        refine Run.nil ?_
        refine then_n ?_
        refine wp_ret ?_
        have hKD : _ = some (Obj.deferred (some [])) := (S.chg.block D (Array.getElem?_eq_some_iff.1 hK).1 (fun hm => by obtain ⟨o, h, hc⟩ := fps_cells hI0.all D hm; rw [hK] at h; cases h; cases hc)).trans hK
        have S2 := (St.call (A := _) (R := []) (by simpa using hI0) S).taken (o' := .deferred none) (by omega) hKD
        exact retMcD E hKD Try.results19 rfl (run_loadVarOne one4 (S2.objCell 8 0 rfl rfl)) ⟨rfl, S2.belT⟩

theorem tapeAll_walk (hL : Rd w0 L l.length 8 (stams l)) (hL2 : ∀ x ∈ l, x.ok w0) : Calls Try.prog 19 [.agg #[.int .i64 gr, .int .i64 ev0, .int .i64 lim], .slice L l.length cL, .int .i64 stop].toArray w0 (fun r w' => r = .returned (.bool true) ∧ Bel w0 w') := by
  by_cases hn : (0 ≤ gr ∧ gr ≤ 99) ∧ (1 ≤ ev0 ∧ ev0 ≤ 1024) ∧ (0 ≤ lim ∧ lim ≤ 16777216)
  · obtain ⟨⟨h1, h2⟩, ⟨h3, h4⟩, h5, h6⟩ := hn
    obtain ⟨G, rfl⟩ : ∃ G : Nat, gr = (G : Int) := ⟨gr.toNat, by omega⟩
    obtain ⟨ev, rfl⟩ : ∃ ev : Nat, ev0 = (ev : Int) := ⟨ev0.toNat, by omega⟩
    by_cases hll : (200 : Int) < (l.length : Int)
    · exact tall_long (by omega) (by omega) (by omega) h5 h6 hll
    · exact tall_ok (by omega) (by omega) (by omega) h5 h6 hL hL2 (by omega) rfl
  · exact tall_bad hn

end
end Go.Proofs.Ytlcglefbhlhcpaa.K
