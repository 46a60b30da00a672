/- FileAny walked. -/
import Derived.Test.YtlcglefbhlhcpaaKg
import Derived.Test.YtlcglefbhlhcpaaAlA
import Derived.Test.YtlcglefbhlhcpaaFiB
namespace Go.Proofs.Ytlcglefbhlhcpaa.K
open Go.RowKit
set_option linter.unusedVariables false
set_option maxRecDepth 100000
set_option maxHeartbeats 400000

section
variable {w0 : World} {A0 : Option Addr} {c0 : Nat} {b : List Nat} {G ev : Nat} {ts : List Sta}

theorem fany_long (h : (3000 : Int) < (b.length : Int)) : Calls Try.prog 3 [.slice A0 b.length c0].toArray w0 (fun r w' => r = .returned (.bool true) ∧ Bel w0 w') := by
  have S := St.nil [] w0
  refine fn_startM Try.func3 rfl 44 rfl rfl [(0, _)] ⟨rfl, trivial⟩ ?_; intro a E
  refine wp_seq ?_
  refine region_plain (n := 1) [(0, .e)] rfl rfl ?_
  refine Run.alloc rfl rfl E S rfl rfl z4 rfl ?_; clear E a S; intro b1 w a E S B_; clear B_
  refine Run.nil ?_
  refine then_n ?_
  refine wp_seq ?_
  refine wp_seq ?_
  refine region_plain (n := 2) [(0, .e), (1, .p)] rfl rfl ?_
  refine Run.call (args := []) rfl rfl E rfl rfl Try.func22 nm22 rfl rfl (anchor20) ?_; rintro e_ w ⟨rfl, B_⟩; refine ⟨_, rfl, fun _ => B_, ?_⟩; clear E a; replace S := S.bel B_; intro a E
  clear B_
  refine Run.not rfl E rfl rfl rfl rfl ?_; clear E a; intro a E
  refine Run.nil ?_
  refine then_n ?_
  refine cond_F E rfl ?_
  refine wp_skip ?_
  refine then_n ?_
  refine wp_seq ?_
  refine wp_seq ?_
  refine region_plain (n := 3) [(0, .p), (1, .p), (2, .p)] rfl rfl ?_
  refine Run.move rfl E rfl rfl rfl ?_; clear E a; intro a E
  refine Run.len rfl E rfl rfl rfl Try.underlying22 ?_; clear E a; intro a E
  refine Run.gtr rfl E rfl rfl rfl rfl (decide_eq_true (by omega)) ?_; clear E a; intro a E
  refine Run.nil ?_
  refine then_n ?_
  refine cond_T E rfl ?_
  refine wp_seq ?_
  refine region_plain (n := 1) [(0, .l)] rfl rfl ?_
  refine Run.store (news := [.bool true]) (cs' := [_]) (hp' := [_]) 0 rfl E S rfl rfl rfl rfl rfl sz4 rfl rfl rfl rfl ?_; clear S; intro w S
  refine Run.nil ?_
  refine then_n ?_
  refine wp_ret ?_
  refine then_r ?_
  exact retMc E Try.results3 rfl (run_loadVarOne one4 (S.objCell 0 0 rfl rfl)) ⟨rfl, S.belT⟩

theorem fany_none (H1 : Rd w0 A0 b.length 1 (u8s b)) (hb8 : ∀ x ∈ b, x < 256) (hl : b.length ≤ 140737488355328) (hbc : b.length ≤ c0) (h : ¬ (3000 : Int) < (b.length : Int)) (hop : opnF b = none) : Calls Try.prog 3 [.slice A0 b.length c0].toArray w0 (fun r w' => r = .returned (.bool true) ∧ Bel w0 w') := by
  have S := St.nil [] w0
  refine fn_startM Try.func3 rfl 44 rfl rfl [(0, _)] ⟨rfl, trivial⟩ ?_; intro a E
  refine wp_seq ?_
  refine region_plain (n := 1) [(0, .e)] rfl rfl ?_
  refine Run.alloc rfl rfl E S rfl rfl z4 rfl ?_; clear E a S; intro b1 w a E S B_; clear B_
  refine Run.nil ?_
  refine then_n ?_
  refine wp_seq ?_
  refine wp_seq ?_
  refine region_plain (n := 2) [(0, .e), (1, .p)] rfl rfl ?_
  refine Run.call (args := []) rfl rfl E rfl rfl Try.func22 nm22 rfl rfl (anchor20) ?_; rintro e_ w ⟨rfl, B_⟩; refine ⟨_, rfl, fun _ => B_, ?_⟩; clear E a; replace S := S.bel B_; intro a E
  clear B_
  refine Run.not rfl E rfl rfl rfl rfl ?_; clear E a; intro a E
  refine Run.nil ?_
  refine then_n ?_
  refine cond_F E rfl ?_
  refine wp_skip ?_
  refine then_n ?_
  refine wp_seq ?_
  refine wp_seq ?_
  refine region_plain (n := 3) [(0, .p), (1, .p), (2, .p)] rfl rfl ?_
  refine Run.move rfl E rfl rfl rfl ?_; clear E a; intro a E
  refine Run.len rfl E rfl rfl rfl Try.underlying22 ?_; clear E a; intro a E
  refine Run.gtr rfl E rfl rfl rfl rfl (decide_eq_false (by omega)) ?_; clear E a; intro a E
  refine Run.nil ?_
  refine then_n ?_
  refine cond_F E rfl ?_
  refine wp_skip ?_
  refine then_n ?_
  refine wp_seq ?_
  refine region_plain (n := 8) [(0, .p), (1, .e), (2, .p), (3, .p), (4, .p), (5, .e), (6, .l), (7, .p)] rfl rfl ?_
  refine Run.move rfl E rfl rfl rfl ?_; clear E a; intro a E
  refine Run.call (args := [.slice A0 b.length c0]) rfl rfl E rfl rfl Try.func23 nm23 rfl rfl (open_none (H1.bel S.belT) hb8 hl hbc hop) ?_; rintro e_ w ⟨rfl, B_⟩; refine ⟨_, rfl, fun _ => B_, ?_⟩; clear E a; replace S := S.bel B_; intro a E
  clear B_
  refine Run.move rfl E rfl rfl rfl ?_; clear E a; intro a E
  refine Run.extract rfl E rfl rfl rfl rfl ?_; clear E a; intro a E
  refine Run.extract rfl E rfl rfl rfl rfl ?_; clear E a; intro a E
  refine Run.alloc rfl rfl E S rfl rfl z24 rfl ?_; clear E a S; intro b2 w a E S B_; clear B_
  refine Run.store (news := [.pointer none]) (cs' := [_]) (hp' := [_, _]) 0 rfl E S rfl rfl rfl rfl rfl sz24 rfl rfl rfl rfl ?_; clear S; intro w S
  refine Run.assign rfl E rfl rfl rfl ?_; clear E a; intro a E
  refine Run.nil ?_
  refine then_n ?_
  refine wp_seq ?_
  refine wp_seq ?_
  refine region_plain (n := 2) [(0, .p), (1, .p)] rfl rfl ?_
  refine Run.move rfl E rfl rfl rfl ?_; clear E a; intro a E
  refine Run.nei rfl E rfl rfl rfl rfl (b := true) (by decide) ?_; clear E a; intro a E
  refine Run.nil ?_
  refine then_n ?_
  refine cond_T E rfl ?_
  refine wp_seq ?_
  refine region_plain (n := 7) [(0, .p), (1, .p), (2, .p), (3, .l), (4, .p), (5, .p), (6, .l)] rfl rfl ?_
  refine Run.move rfl E rfl rfl rfl ?_; clear E a; intro a E
  refine Run.eqi rfl E rfl rfl rfl rfl (b := true) (by decide) ?_; clear E a; intro a E
  refine Run.move rfl E rfl rfl rfl ?_; clear E a; intro a E
  refine Run.load1 rfl rfl E S rfl rfl rfl one24 (fun _ s => s.objCell 0 0 rfl rfl) ?_; clear E a; intro a E
  refine Run.bin (v := .bool true) rfl E rfl rfl rfl rfl (fun _ => by kernel_rfl) ?_; clear E a; intro a E
  refine Run.pickT rfl E rfl rfl rfl rfl ?_; clear E a; intro a E
  refine Run.store (news := [.bool true]) (cs' := [_]) (hp' := [_, _]) 1 rfl E S rfl rfl rfl rfl rfl sz4 rfl rfl rfl rfl ?_; clear S; intro w S
  refine Run.nil ?_
  refine then_n ?_
  refine wp_ret ?_
  refine then_r ?_
  exact retMc E Try.results3 rfl (run_loadVarOne one4 (S.objCell 1 0 rfl rfl)) ⟨rfl, S.belT⟩

set_option maxHeartbeats 2000000 in
theorem fany_some (H1 : Rd w0 A0 b.length 1 (u8s b)) (hb8 : ∀ x ∈ b, x < 256) (hl : b.length ≤ 140737488355328) (hbc : b.length ≤ c0) (h : ¬ (3000 : Int) < (b.length : Int)) (hop : opnF b = some (G, ev, ts)) : Calls Try.prog 3 [.slice A0 b.length c0].toArray w0 (fun r w' => r = .returned (.bool true) ∧ Bel w0 w') := by
  have S := St.nil [] w0
  obtain ⟨hok, hlim, hbp⟩ := opnF_some hb8 hop
  refine fn_startM Try.func3 rfl 44 rfl rfl [(0, _)] ⟨rfl, trivial⟩ ?_; intro a E
  refine wp_seq ?_
  refine region_plain (n := 1) [(0, .e)] rfl rfl ?_
  refine Run.alloc rfl rfl E S rfl rfl z4 rfl ?_; clear E a S; intro b1 w a E S B_; clear B_
  refine Run.nil ?_
  refine then_n ?_
  refine wp_seq ?_
  refine wp_seq ?_
  refine region_plain (n := 2) [(0, .e), (1, .p)] rfl rfl ?_
  refine Run.call (args := []) rfl rfl E rfl rfl Try.func22 nm22 rfl rfl (anchor20) ?_; rintro e_ w ⟨rfl, B_⟩; refine ⟨_, rfl, fun _ => B_, ?_⟩; clear E a; replace S := S.bel B_; intro a E
  clear B_
  refine Run.not rfl E rfl rfl rfl rfl ?_; clear E a; intro a E
  refine Run.nil ?_
  refine then_n ?_
  refine cond_F E rfl ?_
  refine wp_skip ?_
  refine then_n ?_
  refine wp_seq ?_
  refine wp_seq ?_
  refine region_plain (n := 3) [(0, .p), (1, .p), (2, .p)] rfl rfl ?_
  refine Run.move rfl E rfl rfl rfl ?_; clear E a; intro a E
  refine Run.len rfl E rfl rfl rfl Try.underlying22 ?_; clear E a; intro a E
  refine Run.gtr rfl E rfl rfl rfl rfl (decide_eq_false (by omega)) ?_; clear E a; intro a E
  refine Run.nil ?_
  refine then_n ?_
  refine cond_F E rfl ?_
  refine wp_skip ?_
  refine then_n ?_
  refine wp_seq ?_
  refine region_plain (n := 8) [(0, .p), (1, .e), (2, .p), (3, .p), (4, .p), (5, .e), (6, .l), (7, .p)] rfl rfl ?_
  refine Run.move rfl E rfl rfl rfl ?_; clear E a; intro a E
  refine Run.call (args := [.slice A0 b.length c0]) rfl rfl E rfl rfl Try.func23 nm23 rfl rfl (open_some (H1.bel S.belT) hb8 hl hbc hop) ?_; rintro e_ w ⟨g, A, c, B, d, C, e, rfl, S_⟩; refine ⟨_, rfl, (fun _ => S_.belT), ?_⟩; clear E a; intro a E
  replace S : St _ _ _ [.obj _ _ [_, _, _, _, _, _, _, _, _, _, _, _, _], _, _, _, .obj _ _ [_]] := St.call (A := []) (R := [_]) S S_; clear S_
  refine Run.move rfl E rfl rfl rfl ?_; clear E a; intro a E
  refine Run.extract rfl E rfl rfl rfl rfl ?_; clear E a; intro a E
  refine Run.extract rfl E rfl rfl rfl rfl ?_; clear E a; intro a E
  refine Run.alloc rfl rfl E S rfl rfl z24 rfl ?_; clear E a S; intro b2 w a E S B_; clear B_
  refine Run.store (news := [.pointer (some ⟨g, 0, none⟩)]) (cs' := [_]) (hp' := [_, _, _, _, _, _]) 0 rfl E S rfl rfl rfl rfl rfl sz24 rfl rfl rfl rfl ?_; clear S; intro w S
  refine Run.assign rfl E rfl rfl rfl ?_; clear E a; intro a E
  refine Run.nil ?_
  refine then_n ?_
  refine wp_seq ?_
  refine wp_seq ?_
  refine region_plain (n := 2) [(0, .p), (1, .p)] rfl rfl ?_
  refine Run.move rfl E rfl rfl rfl ?_; clear E a; intro a E
  refine Run.nei rfl E rfl rfl rfl rfl (b := false) (by decide) ?_; clear E a; intro a E
  refine Run.nil ?_
  refine then_n ?_
  refine cond_F E rfl ?_
  refine wp_skip ?_
  refine then_n ?_
  refine wp_seq ?_
  refine wp_seq ?_
  refine region_drawS (n := 10) [(0, .t), (1, .p), (2, .p), (6, .p), (3, .t), (7, .t), (4, .e), (5, .t), (8, .p), (9, .p)] [0, 1, 3, 7, 15, 31, 7, 71, 255, 511] S mixed rfl rfl (by kernel_rfl) (fun _ _ _ _ _ h => h) ?_; clear S; intro w S B_; clear B_
  refine Run.load1 rfl rfl E S rfl rfl rfl one24 (fun _ s => s.objCell 0 0 rfl rfl) ?_; clear E a; intro a E
  refine Run.bin (v := .bool false) rfl E rfl rfl rfl rfl (fun _ => by kernel_rfl) ?_; clear E a; intro a E
  refine Run.move rfl E rfl rfl rfl ?_; clear E a; intro a E
  refine Run.move rfl E rfl rfl rfl ?_; clear E a; intro a E
  refine Run.load1 rfl rfl E S rfl rfl rfl one24 (fun _ s => s.objCell 0 0 rfl rfl) ?_; clear E a; intro a E
  refine Run.toStr (l := b) rfl rfl E rfl rfl rfl (H1.bel S.belT) rfl Try.underlying22 Try.underlying5 Try.underlying9 ?_; clear E a; intro a E
  refine Run.call (args := [.pointer (some ⟨g, 0, none⟩)]) rfl rfl E rfl rfl Try.func24 nm24 rfl rfl (pack_walk (St.holdsL (A := [.obj g 128 [.int .i64 (G : Int), .int .i64 (ev : Int), .int .i64 16777216, .slice A ((tbytes G ev ts).length) c, .slice B ((tstarts G ev ts).length) d, .int .i64 ((lastS ts).kind), .int .i64 ((lastS ts).node), .int .i64 ((lastS ts).phase), .int .i64 ((lastS ts).pos), .int .i64 ((lastS ts).start), .int .i64 ((lastS ts).depth), .int .i64 ((lastS ts).org), .slice C ((lastS ts).caps.length) e], .row (.slice A ((tbytes G ev ts).length) c) 5 1 ((tbytes G ev ts).length) (u8s (tbytes G ev ts)), .row (.slice B ((tstarts G ev ts).length) d) 3 1 ((tstarts G ev ts).length) (ints (tstarts G ev ts)), .row (.slice C ((lastS ts).caps.length) e) 3 1 ((lastS ts).caps.length) (ints (lastS ts).caps)]) (R := [_, _]) (S.sel [1, 2, 3, 4, 0, 5] ([.obj g 128 [.int .i64 (G : Int), .int .i64 (ev : Int), .int .i64 16777216, .slice A ((tbytes G ev ts).length) c, .slice B ((tstarts G ev ts).length) d, .int .i64 ((lastS ts).kind), .int .i64 ((lastS ts).node), .int .i64 ((lastS ts).phase), .int .i64 ((lastS ts).pos), .int .i64 ((lastS ts).start), .int .i64 ((lastS ts).depth), .int .i64 ((lastS ts).org), .slice C ((lastS ts).caps.length) e], .row (.slice A ((tbytes G ev ts).length) c) 5 1 ((tbytes G ev ts).length) (u8s (tbytes G ev ts)), .row (.slice B ((tstarts G ev ts).length) d) 3 1 ((tstarts G ev ts).length) (ints (tstarts G ev ts)), .row (.slice C ((lastS ts).caps.length) e) 3 1 ((lastS ts).caps.length) (ints (lastS ts).caps)] ++ [_, _]) rfl rfl)) hok hlim) ?_; rintro e_ w ⟨X3, e4, rfl, S_⟩; refine ⟨_, rfl, (fun _ => S_.belT), ?_⟩; clear E a; intro a E
  replace S : St _ _ _ [_, .obj _ _ [_], .obj _ _ [_, _, _, _, _, _, _, _, _, _, _, _, _], _, _, _, .obj _ _ [_]] := St.call (A := []) (R := [_, _, _, _, _, _]) S S_; clear S_
  refine Run.toStr (l := (packB G ev ts)) rfl rfl E rfl rfl rfl (S.rd 0 rfl) rfl Try.underlying22 Try.underlying5 Try.underlying9 ?_; clear E a; intro a E
  refine Run.nes (b := false) rfl E rfl rfl rfl rfl (by rw [← hbp]; simp) ?_; clear E a; intro a E
  refine Run.pickF rfl E rfl rfl rfl rfl ?_; clear E a; intro a E
  refine Run.nil ?_
  refine then_n ?_
  refine cond_F E rfl ?_
  refine wp_skip ?_
  refine then_n ?_
  refine wp_seq ?_
  refine wp_seq ?_
  refine region_plain (n := 2) [(0, .l), (1, .e)] rfl rfl ?_
  refine Run.load1 rfl rfl E S rfl rfl rfl one24 (fun _ s => s.objCell 1 0 rfl rfl) ?_; clear E a; intro a E
  refine Run.call (args := [.pointer (some ⟨g, 0, none⟩)]) rfl rfl E rfl rfl Try.func25 nm25 rfl rfl (all_walk) ?_; rintro e_ w ⟨bx5, rfl, S_⟩; refine ⟨_, rfl, (fun _ => S_.belT), ?_⟩; clear E a; intro a E
  replace S : St _ _ _ [.obj _ _ [_], _, .obj _ _ [_], .obj _ _ [_, _, _, _, _, _, _, _, _, _, _, _, _], _, _, _, .obj _ _ [_]] := St.call (A := []) (R := [_, _, _, _, _, _, _]) S S_; clear S_
  refine Run.nil ?_
  refine then_n ?_
  refine wp_block ?_
  have S : St _ _ _ [_, _, _, _, _, _, _, _] := S.sel [1, 7, 2, 0, 3, 4, 5, 6] _ rfl rfl
  have S := S.drop1
  have E0 : Env 44 [(2, .pointer (some ⟨b1, 0, none⟩)), (3, .pointer (some ⟨b2, 0, none⟩))] a := E.keeps [(2, _), (3, _)] ⟨rfl, rfl, trivial⟩
  have hgf : a.eval (.tmp 36) = .func (.func 85) #[] #[.pointer (some ⟨bx5, 0, none⟩)] := E.eval rfl
  clear E
  have hw0 : w0.heap.size ≤ w.heap.size := S.chg.size
  have hlt0 : ∀ b ∈ fps [.obj b1 4 [.bool false], .obj b2 24 [.pointer (some ⟨g, 0, none⟩)], .obj bx5 24 [.pointer (some ⟨g, 0, none⟩)], .obj g 128 [.int .i64 (G : Int), .int .i64 (ev : Int), .int .i64 16777216, .slice A ((tbytes G ev ts).length) c, .slice B ((tstarts G ev ts).length) d, .int .i64 ((lastS ts).kind), .int .i64 ((lastS ts).node), .int .i64 ((lastS ts).phase), .int .i64 ((lastS ts).pos), .int .i64 ((lastS ts).start), .int .i64 ((lastS ts).depth), .int .i64 ((lastS ts).org), .slice C ((lastS ts).caps.length) e], .row (.slice A ((tbytes G ev ts).length) c) 5 1 ((tbytes G ev ts).length) (u8s (tbytes G ev ts)), .row (.slice B ((tstarts G ev ts).length) d) 3 1 ((tstarts G ev ts).length) (ints (tstarts G ev ts)), .row (.slice C ((lastS ts).caps.length) e) 3 1 ((lastS ts).caps.length) (ints (lastS ts).caps)], b < w.heap.size := S.lt
  have hTH := (St.holdsL (A := [.obj g 128 [.int .i64 (G : Int), .int .i64 (ev : Int), .int .i64 16777216, .slice A ((tbytes G ev ts).length) c, .slice B ((tstarts G ev ts).length) d, .int .i64 ((lastS ts).kind), .int .i64 ((lastS ts).node), .int .i64 ((lastS ts).phase), .int .i64 ((lastS ts).pos), .int .i64 ((lastS ts).start), .int .i64 ((lastS ts).depth), .int .i64 ((lastS ts).org), .slice C ((lastS ts).caps.length) e], .row (.slice A ((tbytes G ev ts).length) c) 5 1 ((tbytes G ev ts).length) (u8s (tbytes G ev ts)), .row (.slice B ((tstarts G ev ts).length) d) 3 1 ((tstarts G ev ts).length) (ints (tstarts G ev ts)), .row (.slice C ((lastS ts).caps.length) e) 3 1 ((lastS ts).caps.length) (ints (lastS ts).caps)]) (R := [_, _, _]) (S.sel [3, 4, 5, 6, 0, 1, 2] ([.obj g 128 [.int .i64 (G : Int), .int .i64 (ev : Int), .int .i64 16777216, .slice A ((tbytes G ev ts).length) c, .slice B ((tstarts G ev ts).length) d, .int .i64 ((lastS ts).kind), .int .i64 ((lastS ts).node), .int .i64 ((lastS ts).phase), .int .i64 ((lastS ts).pos), .int .i64 ((lastS ts).start), .int .i64 ((lastS ts).depth), .int .i64 ((lastS ts).org), .slice C ((lastS ts).caps.length) e], .row (.slice A ((tbytes G ev ts).length) c) 5 1 ((tbytes G ev ts).length) (u8s (tbytes G ev ts)), .row (.slice B ((tstarts G ev ts).length) d) 3 1 ((tstarts G ev ts).length) (ints (tstarts G ev ts)), .row (.slice C ((lastS ts).caps.length) e) 3 1 ((lastS ts).caps.length) (ints (lastS ts).caps)] ++ [_, _, _]) rfl rfl))
  have hTl : ∀ k ∈ fps [.obj g 128 [.int .i64 (G : Int), .int .i64 (ev : Int), .int .i64 16777216, .slice A ((tbytes G ev ts).length) c, .slice B ((tstarts G ev ts).length) d, .int .i64 ((lastS ts).kind), .int .i64 ((lastS ts).node), .int .i64 ((lastS ts).phase), .int .i64 ((lastS ts).pos), .int .i64 ((lastS ts).start), .int .i64 ((lastS ts).depth), .int .i64 ((lastS ts).org), .slice C ((lastS ts).caps.length) e], .row (.slice A ((tbytes G ev ts).length) c) 5 1 ((tbytes G ev ts).length) (u8s (tbytes G ev ts)), .row (.slice B ((tstarts G ev ts).length) d) 3 1 ((tstarts G ev ts).length) (ints (tstarts G ev ts)), .row (.slice C ((lastS ts).caps.length) e) 3 1 ((lastS ts).caps.length) (ints (lastS ts).caps)], k ∉ ([] : List Nat) := (fun _ _ h => by cases h)
  have hseq := all_seq hTH hok hlim (by decide) (S.objCell 2 0 rfl rfl) (hlt0 _ (by simp [fps, Ck.fp])) (F0 := ([] : List Nat)) hTl (by simp) (fun _ h => by cases h)
  refine (wpIn_wide (n := 3)).1 (range_own (F := Fence.wide) rfl (by decide) hgf trivial (enters_of Try.func85 nm85 rfl) hseq (fun _ => rfl) (fun (pre : List (Nat × StaM)) W => St [] w0 W [.obj b1 4 [.bool false], .obj b2 24 [.pointer (some ⟨g, 0, none⟩)], .obj bx5 24 [.pointer (some ⟨g, 0, none⟩)], .obj g 128 [.int .i64 (G : Int), .int .i64 (ev : Int), .int .i64 16777216, .slice A ((tbytes G ev ts).length) c, .slice B ((tstarts G ev ts).length) d, .int .i64 ((lastS ts).kind), .int .i64 ((lastS ts).node), .int .i64 ((lastS ts).phase), .int .i64 ((lastS ts).pos), .int .i64 ((lastS ts).start), .int .i64 ((lastS ts).depth), .int .i64 ((lastS ts).org), .slice C ((lastS ts).caps.length) e], .row (.slice A ((tbytes G ev ts).length) c) 5 1 ((tbytes G ev ts).length) (u8s (tbytes G ev ts)), .row (.slice B ((tstarts G ev ts).length) d) 3 1 ((tstarts G ev ts).length) (ints (tstarts G ev ts)), .row (.slice C ((lastS ts).caps.length) e) 3 1 ((lastS ts).caps.length) (ints (lastS ts).caps)]) (fun _ _ _ => False)
    (fun s_ X Y R_ hs hc hr => hs.abC hw0 hlt0 hc hr) (fun _ _ _ _ _ h _ _ => h) S
    (fun pre x a' W => ∃ b6 : Nat, Env 44 [(6, .pointer (some ⟨b6, 0, none⟩)), (2, .pointer (some ⟨b1, 0, none⟩)), (3, .pointer (some ⟨b2, 0, none⟩))] a' ∧ (∀ j v, x.2.cells[j]? = some v → W.cell? ⟨b6, j, none⟩ = some v) ∧ Rd W x.2.A x.2.s.caps.length 1 (ints x.2.s.caps) ∧ ts[x.1]? = some x.2.s) (fun pre x a' _ X Y row hs hg hr => by obtain ⟨b6, h1, h2, h3, h4⟩ := hs; exact ⟨b6, h1, fun j v hj => cell_kept (h2 j v hj) hg (fun r e => (hr r e).2), h3.keepsBooks hg (fun r e => (hr r e).2), h4⟩) ?_ ?_ ?_ ?_)
  · intro l pre x W K hWs hI hV hK
    have E : Env 44 [(38, .agg #[.int .i64 x.2.s.kind, .int .i64 x.2.s.node, .int .i64 x.2.s.phase, .int .i64 x.2.s.pos, .int .i64 x.2.s.start, .int .i64 x.2.s.depth, .int .i64 x.2.s.org, .slice x.2.A x.2.s.caps.length x.2.c]), (37, .int .i64 (x.1 : Int)), (2, .pointer (some ⟨b1, 0, none⟩)), (3, .pointer (some ⟨b2, 0, none⟩))] ({ tmps := (Array.zip #[37, 38] #[Value.int .i64 (x.1 : Int), .agg #[.int .i64 x.2.s.kind, .int .i64 x.2.s.node, .int .i64 x.2.s.phase, .int .i64 x.2.s.pos, .int .i64 x.2.s.start, .int .i64 x.2.s.depth, .int .i64 x.2.s.org, .slice x.2.A x.2.s.caps.length x.2.c]]).foldl (fun t (p, v) => t.setIfInBounds p v) a.tmps, defers := [] } : Act) := by
      have h := ((E0.put (d := 37) (.int .i64 (x.1 : Int)) rfl).put (d := 38) (.agg #[.int .i64 x.2.s.kind, .int .i64 x.2.s.node, .int .i64 x.2.s.phase, .int .i64 x.2.s.pos, .int .i64 x.2.s.start, .int .i64 x.2.s.depth, .int .i64 x.2.s.org, .slice x.2.A x.2.s.caps.length x.2.c]) rfl).deferred (ds' := [])
      simpa [Act.put] using h
    generalize ({ tmps := (Array.zip #[37, 38] #[Value.int .i64 (x.1 : Int), .agg #[.int .i64 x.2.s.kind, .int .i64 x.2.s.node, .int .i64 x.2.s.phase, .int .i64 x.2.s.pos, .int .i64 x.2.s.start, .int .i64 x.2.s.depth, .int .i64 x.2.s.org, .slice x.2.A x.2.s.caps.length x.2.c]]).foldl (fun t (p, v) => t.setIfInBounds p v) a.tmps, defers := [] } : Act) = a0 at E ⊢
    clear E0 hgf
    clear a; rename Act => a
    have S := St.nil [] W
    have hI0 := hI; clear hI
    refine region_plain_in (m := 2) (WideF.round l) [(0, .e), (1, .l)] (by kernel_rfl) rfl rfl ?_
    refine Run.alloc rfl rfl E S rfl rfl z34 rfl ?_; clear E a S; intro b6 w a E S B_; clear B_
    refine Run.store (news := [.int .i64 x.2.s.kind, .int .i64 x.2.s.node, .int .i64 x.2.s.phase, .int .i64 x.2.s.pos, .int .i64 x.2.s.start, .int .i64 x.2.s.depth, .int .i64 x.2.s.org, .slice x.2.A x.2.s.caps.length x.2.c]) (cs' := [_, _, _, _, _, _, _, _]) (hp' := [_]) 0 rfl E S rfl rfl rfl rfl rfl sz34 rfl rfl rfl rfl ?_; clear S; intro w S
    refine Run.nilIn ?_
    refine then_n ?_
    exact hK _ _ (Chg.keeps (hp := []) S.chg (fun c hc => by cases hc) _) (Kc.ofChg S.chg (fun r hr => by cases hr)) (hI0.bel S.belT) ⟨b6, E.keeps [(6, _), (2, _), (3, _)] ⟨rfl, rfl, rfl, trivial⟩, (fun j v hj => S.objCell 0 j rfl hj), hV.2.2.bel S.belT, hV.2.1⟩
  · rintro l pre x a W hWs hI ⟨b6, E, hb6, hRx, htx⟩
    clear E0 hgf
    have hI0 := hI; clear hI
    have S := St.nil [] W
    have hRR := hok.right _ (List.mem_of_getElem? htx)
    have hcl := right_capl hRR
    have hgg := hok.g
    have o3 := hI0.obj 1 rfl
    refine wpIn_block ?_
    refine wpIn_seq ?_
    refine region_drawS_in (m := 5) (WideF.round l) [(0, .t), (1, .t), (2, .e), (3, .e), (4, .p)] [0, 0, 2, 7, 15] S mixed rfl rfl (by kernel_rfl) (by kernel_rfl) (fun _ _ _ _ _ h => h) ?_; clear S; intro w S B_; clear B_
    refine Run.loadN (cs := [.int .i64 x.2.s.kind, .int .i64 x.2.s.node, .int .i64 x.2.s.phase, .int .i64 x.2.s.pos, .int .i64 x.2.s.start, .int .i64 x.2.s.depth, .int .i64 x.2.s.org, .slice x.2.A x.2.s.caps.length x.2.c]) rfl rfl E S rfl rfl rfl ag34 rfl (fun _ s_ => fun j v hj => by have h_ := roCell (hb6 j v hj) s_; rw [add_at, Nat.zero_add]; exact h_) ?_; clear E a; intro a E
    refine Run.load1 rfl rfl E S rfl rfl rfl one24 (fun _ s_ => roObj o3 s_ rfl) ?_; clear E a; intro a E
    refine Run.call (args := [.pointer (some ⟨g, 0, none⟩)]) rfl rfl E rfl rfl Try.func27 nm27 rfl rfl (tape_groups ((St.holdsL (A := [.obj g 128 [.int .i64 (G : Int), .int .i64 (ev : Int), .int .i64 16777216, .slice A ((tbytes G ev ts).length) c, .slice B ((tstarts G ev ts).length) d, .int .i64 ((lastS ts).kind), .int .i64 ((lastS ts).node), .int .i64 ((lastS ts).phase), .int .i64 ((lastS ts).pos), .int .i64 ((lastS ts).start), .int .i64 ((lastS ts).depth), .int .i64 ((lastS ts).org), .slice C ((lastS ts).caps.length) e], .row (.slice A ((tbytes G ev ts).length) c) 5 1 ((tbytes G ev ts).length) (u8s (tbytes G ev ts)), .row (.slice B ((tstarts G ev ts).length) d) 3 1 ((tstarts G ev ts).length) (ints (tstarts G ev ts)), .row (.slice C ((lastS ts).caps.length) e) 3 1 ((lastS ts).caps.length) (ints (lastS ts).caps)]) (R := [_, _, _]) (hI0.sel [3, 4, 5, 6, 0, 1, 2] _ rfl rfl)).bel S.belT)) ?_; rintro e_ w ⟨rfl, B_⟩; refine ⟨_, rfl, fun _ => B_, ?_⟩; clear E a; replace S := S.bel B_; intro a E
    clear B_
    refine Run.call (args := [.agg #[.int .i64 x.2.s.kind, .int .i64 x.2.s.node, .int .i64 x.2.s.phase, .int .i64 x.2.s.pos, .int .i64 x.2.s.start, .int .i64 x.2.s.depth, .int .i64 x.2.s.org, .slice x.2.A x.2.s.caps.length x.2.c], .int .i64 (G : Int)]) rfl rfl E rfl rfl Try.func26 nm26 rfl rfl (right_walk (s := x.2.s) (g := (G : Int)) (hRx.bel S.belT) (by omega)) ?_; rintro e_ w ⟨rfl, B_⟩; refine ⟨_, rfl, fun _ => B_, ?_⟩; clear E a; replace S := S.bel B_; intro a E
    clear B_
    replace E := E.setb 42 rfl (decide_eq_true hRR)
    refine Run.not rfl E rfl rfl rfl rfl ?_; clear E a; intro a E
    refine Run.nilIn ?_
    refine then_n ?_
    refine cond_F_in E rfl ?_
    refine wpIn_skip ?_
    refine blk_n ?_
    exact ⟨Chg.keeps (hp := []) S.chg (fun c hc => by cases hc) _, Kc.ofChg S.chg (fun r hr => by cases hr), hI0.bel S.belT⟩
  · intro D xs W hD hS hI hK
    have E : EnvD [{ target := .collected D, args := #[] }] 44 [(2, .pointer (some ⟨b1, 0, none⟩)), (3, .pointer (some ⟨b2, 0, none⟩))] { a with defers := { target := .collected D, args := #[] } :: a.defers } := by
      have h := E0.deferred (ds' := { target := .collected D, args := #[] } :: a.defers)
      rw [E0.defers] at h ⊢; exact h
    generalize ({ a with defers := { target := .collected D, args := #[] } :: a.defers } : Act) = a1 at E ⊢
    clear E0 hgf
    clear a; rename Act => a
    have hI0 := hI; clear hI
    have S := St.start _ hI0.all hI0.nodup
    refine blk_n ?_
    refine then_n ?_
    refine wp_seq ?_
    refine region_plain (n := 1) [(0, .l)] rfl rfl ?_
    refine Run.store (news := [.bool true]) (cs' := [_]) (hp' := [_, _, _, _, _, _, _]) 0 rfl E S rfl rfl rfl rfl rfl sz4 rfl rfl rfl rfl ?_; clear S; intro w S
    refine Run.nil ?_
    refine then_n ?_
    refine wp_ret ?_
    have hKD : _ = some (Obj.deferred (some [])) := (S.chg.block D (Array.getElem?_eq_some_iff.1 hK).1 (fun hm => by obtain ⟨o, h, hc⟩ := fps_cells hI0.all D hm; rw [hK] at h; cases h; cases hc)).trans hK
    have S2 := (St.call (A := _) (R := []) (by simpa using hI0) S).taken (o' := .deferred none) (by omega) hKD
    exact retMcD E hKD Try.results3 rfl (run_loadVarOne one4 (S2.objCell 0 0 rfl rfl)) ⟨rfl, S2.belT⟩
  · intro D c_ pre W _ h _; exact h.elim

theorem fileAny_walk (H1 : Rd w0 A0 b.length 1 (u8s b)) (hb8 : ∀ x ∈ b, x < 256) (hl : b.length ≤ 140737488355328) (hbc : b.length ≤ c0) : Calls Try.prog 3 [.slice A0 b.length c0].toArray w0 (fun r w' => r = .returned (.bool true) ∧ Bel w0 w') := by
  by_cases h : (3000 : Int) < (b.length : Int)
  · exact fany_long h
  · cases hop : opnF b with
    | none => exact fany_none H1 hb8 hl hbc h hop
    | some q =>
      obtain ⟨G, ev, ts⟩ := q
      exact fany_some H1 hb8 hl hbc h hop

end
end Go.Proofs.Ytlcglefbhlhcpaa.K
