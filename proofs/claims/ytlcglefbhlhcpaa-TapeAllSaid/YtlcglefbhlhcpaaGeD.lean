/- A state is read. -/
import Derived.Test.YtlcglefbhlhcpaaKg
import Derived.Test.YtlcglefbhlhcpaaGeS
namespace Go.Proofs.Ytlcglefbhlhcpaa.K
open Go.RowKit
set_option linter.unusedVariables false
set_option maxRecDepth 100000
set_option maxHeartbeats 400000

section
variable {w0 : World} {A C : Option Addr} {c d : Nat} {b : List Nat} {at_ : Int} {s : Sta}

theorem read_nobase (H2 : Rd w0 C s.caps.length 1 (ints s.caps)) (hs : s.caps.length ≤ 140737488355328) (hB : ¬ s.base) : Calls Try.prog 66 [.agg #[.int .i64 s.kind, .int .i64 s.node, .int .i64 s.phase, .int .i64 s.pos, .int .i64 s.start, .int .i64 s.depth, .int .i64 s.org, .slice C s.caps.length d], .slice A b.length c, .int .i64 at_].toArray w0 (fun r w' => r = .returned (.tuple #[.agg #[.int .i64 0, .int .i64 0, .int .i64 0, .int .i64 0, .int .i64 0, .int .i64 0, .int .i64 0, .slice none 0 0], .int .i64 0, .int .i64 11]) ∧ Bel w0 w') := by
  have S := St.nil [] w0
  refine fn_start Try.func66 rfl 101 rfl rfl [(0, _), (1, _), (2, _)] ⟨rfl, rfl, rfl, trivial⟩ ?_; intro a E
  refine wp_seq ?_
  refine region_plain (n := 4) [(0, .e), (1, .e), (2, .p), (3, .p)] rfl rfl ?_
  refine Run.box (cs := [.int .i64 s.kind, .int .i64 s.node, .int .i64 s.phase, .int .i64 s.pos, .int .i64 s.start, .int .i64 s.depth, .int .i64 s.org, .slice C s.caps.length d]) rfl rfl E S rfl rfl rfl rfl ?_; clear E a S; intro b1 w a E S B_; clear B_
  refine Run.alloc rfl rfl E S rfl rfl z34 rfl ?_; clear E a S; intro b2 w a E S B_; clear B_
  refine Run.assign rfl E rfl rfl rfl ?_; clear E a; intro a E
  refine Run.assign rfl E rfl rfl rfl ?_; clear E a; intro a E
  refine Run.nil ?_
  refine then_n ?_
  refine wp_seq ?_
  refine wp_seq ?_
  refine region_plain (n := 3) [(0, .l), (1, .e), (2, .p)] rfl rfl ?_
  refine Run.loadN (cs := [.int .i64 s.kind, .int .i64 s.node, .int .i64 s.phase, .int .i64 s.pos, .int .i64 s.start, .int .i64 s.depth, .int .i64 s.org, .slice C s.caps.length d]) rfl rfl E S rfl rfl rfl ag34 rfl (fun _ s => objAll s 1 rfl) ?_; clear E a; intro a E
  refine Run.call (args := [.agg #[.int .i64 s.kind, .int .i64 s.node, .int .i64 s.phase, .int .i64 s.pos, .int .i64 s.start, .int .i64 s.depth, .int .i64 s.org, .slice C s.caps.length d]]) rfl rfl E rfl rfl Try.func95 nm95 rfl rfl (dbase_walk (s := s) (H2.bel S.belT) hs) ?_; rintro e_ w ⟨rfl, B_⟩; refine ⟨_, rfl, fun _ => B_, ?_⟩; clear E a; replace S := S.bel B_; intro a E
  clear B_
  replace E := E.setb 15 rfl (decide_eq_false hB)
  refine Run.not rfl E rfl rfl rfl rfl ?_; clear E a; intro a E
  refine Run.nil ?_
  refine then_n ?_
  refine cond_T E rfl ?_
  refine wp_seq ?_
  refine region_plain (n := 4) [(0, .p), (1, .l), (2, .p), (3, .p)] rfl rfl ?_
  refine Run.build (cs := #[.int .i64 0, .int .i64 0, .int .i64 0, .int .i64 0, .int .i64 0, .int .i64 0, .int .i64 0, .slice none 0 0]) [] rfl E rfl rfl rfl (by kernel_rfl) ?_; clear E a; intro a E
  refine Run.store (news := [.int .i64 0, .int .i64 0, .int .i64 0, .int .i64 0, .int .i64 0, .int .i64 0, .int .i64 0, .slice none 0 0]) (cs' := [_, _, _, _, _, _, _, _]) (hp' := [_, _]) 0 rfl E S rfl rfl rfl rfl rfl sz34 rfl rfl rfl rfl ?_; clear S; intro w S
  refine Run.assign rfl E rfl rfl rfl ?_; clear E a; intro a E
  refine Run.assign rfl E rfl rfl rfl ?_; clear E a; intro a E
  refine Run.nil ?_
  refine then_n ?_
  refine wp_ret ?_
  refine then_r ?_
  exact retN E (vs := [.agg #[.int .i64 0, .int .i64 0, .int .i64 0, .int .i64 0, .int .i64 0, .int .i64 0, .int .i64 0, .slice none 0 0], .int .i64 0, .int .i64 11]) Try.results66 (.cell (E.slot _ _ rfl) (run_loadVarAgg ag34 rfl (objAll S 0 rfl)) (.tmp (E.slot _ _ rfl) (.tmp (E.slot _ _ rfl) .nil))) rfl ⟨rfl, S.belT⟩

theorem read_low (H2 : Rd w0 C s.caps.length 1 (ints s.caps)) (hs : s.caps.length ≤ 140737488355328) (hB : s.base) (h : at_ < 0) : Calls Try.prog 66 [.agg #[.int .i64 s.kind, .int .i64 s.node, .int .i64 s.phase, .int .i64 s.pos, .int .i64 s.start, .int .i64 s.depth, .int .i64 s.org, .slice C s.caps.length d], .slice A b.length c, .int .i64 at_].toArray w0 (fun r w' => r = .returned (.tuple #[.agg #[.int .i64 0, .int .i64 0, .int .i64 0, .int .i64 0, .int .i64 0, .int .i64 0, .int .i64 0, .slice none 0 0], .int .i64 0, .int .i64 10]) ∧ Bel w0 w') := by
  have S := St.nil [] w0
  refine fn_start Try.func66 rfl 101 rfl rfl [(0, _), (1, _), (2, _)] ⟨rfl, rfl, rfl, trivial⟩ ?_; intro a E
  refine wp_seq ?_
  refine region_plain (n := 4) [(0, .e), (1, .e), (2, .p), (3, .p)] rfl rfl ?_
  refine Run.box (cs := [.int .i64 s.kind, .int .i64 s.node, .int .i64 s.phase, .int .i64 s.pos, .int .i64 s.start, .int .i64 s.depth, .int .i64 s.org, .slice C s.caps.length d]) rfl rfl E S rfl rfl rfl rfl ?_; clear E a S; intro b1 w a E S B_; clear B_
  refine Run.alloc rfl rfl E S rfl rfl z34 rfl ?_; clear E a S; intro b2 w a E S B_; clear B_
  refine Run.assign rfl E rfl rfl rfl ?_; clear E a; intro a E
  refine Run.assign rfl E rfl rfl rfl ?_; clear E a; intro a E
  refine Run.nil ?_
  refine then_n ?_
  refine wp_seq ?_
  refine wp_seq ?_
  refine region_plain (n := 3) [(0, .l), (1, .e), (2, .p)] rfl rfl ?_
  refine Run.loadN (cs := [.int .i64 s.kind, .int .i64 s.node, .int .i64 s.phase, .int .i64 s.pos, .int .i64 s.start, .int .i64 s.depth, .int .i64 s.org, .slice C s.caps.length d]) rfl rfl E S rfl rfl rfl ag34 rfl (fun _ s => objAll s 1 rfl) ?_; clear E a; intro a E
  refine Run.call (args := [.agg #[.int .i64 s.kind, .int .i64 s.node, .int .i64 s.phase, .int .i64 s.pos, .int .i64 s.start, .int .i64 s.depth, .int .i64 s.org, .slice C s.caps.length d]]) rfl rfl E rfl rfl Try.func95 nm95 rfl rfl (dbase_walk (s := s) (H2.bel S.belT) hs) ?_; rintro e_ w ⟨rfl, B_⟩; refine ⟨_, rfl, fun _ => B_, ?_⟩; clear E a; replace S := S.bel B_; intro a E
  clear B_
  replace E := E.setb 15 rfl (decide_eq_true hB)
  refine Run.not rfl E rfl rfl rfl rfl ?_; clear E a; intro a E
  refine Run.nil ?_
  refine then_n ?_
  refine cond_F E rfl ?_
  refine wp_skip ?_
  refine then_n ?_
  refine wp_seq ?_
  refine wp_seq ?_
  refine region_plain (n := 8) [(0, .p), (1, .p), (2, .p), (3, .p), (4, .p), (5, .p), (6, .p), (7, .p)] rfl rfl ?_
  refine Run.move rfl E rfl rfl rfl ?_; clear E a; intro a E
  refine Run.lss rfl E rfl rfl rfl rfl (decide_eq_true (by omega)) ?_; clear E a; intro a E
  refine Run.move rfl E rfl rfl rfl ?_; clear E a; intro a E
  refine Run.off rfl E rfl rfl ?_; clear E a; intro a E
  refine Run.off rfl E rfl rfl ?_; clear E a; intro a E
  refine Run.off rfl E rfl rfl ?_; clear E a; intro a E
  refine Run.off rfl E rfl rfl ?_; clear E a; intro a E
  refine Run.pickT rfl E rfl rfl rfl rfl ?_; clear E a; intro a E
  refine Run.nil ?_
  refine then_n ?_
  refine cond_T E rfl ?_
  refine wp_seq ?_
  refine region_plain (n := 4) [(0, .p), (1, .l), (2, .p), (3, .p)] rfl rfl ?_
  refine Run.build (cs := #[.int .i64 0, .int .i64 0, .int .i64 0, .int .i64 0, .int .i64 0, .int .i64 0, .int .i64 0, .slice none 0 0]) [] rfl E rfl rfl rfl (by kernel_rfl) ?_; clear E a; intro a E
  refine Run.store (news := [.int .i64 0, .int .i64 0, .int .i64 0, .int .i64 0, .int .i64 0, .int .i64 0, .int .i64 0, .slice none 0 0]) (cs' := [_, _, _, _, _, _, _, _]) (hp' := [_, _]) 0 rfl E S rfl rfl rfl rfl rfl sz34 rfl rfl rfl rfl ?_; clear S; intro w S
  refine Run.assign rfl E rfl rfl rfl ?_; clear E a; intro a E
  refine Run.assign rfl E rfl rfl rfl ?_; clear E a; intro a E
  refine Run.nil ?_
  refine then_n ?_
  refine wp_ret ?_
  refine then_r ?_
  exact retN E (vs := [.agg #[.int .i64 0, .int .i64 0, .int .i64 0, .int .i64 0, .int .i64 0, .int .i64 0, .int .i64 0, .slice none 0 0], .int .i64 0, .int .i64 10]) Try.results66 (.cell (E.slot _ _ rfl) (run_loadVarAgg ag34 rfl (objAll S 0 rfl)) (.tmp (E.slot _ _ rfl) (.tmp (E.slot _ _ rfl) .nil))) rfl ⟨rfl, S.belT⟩

theorem read_high (H2 : Rd w0 C s.caps.length 1 (ints s.caps)) (hs : s.caps.length ≤ 140737488355328) (hB : s.base) (h0 : 0 ≤ at_) (h : (b.length : Int) < at_) : Calls Try.prog 66 [.agg #[.int .i64 s.kind, .int .i64 s.node, .int .i64 s.phase, .int .i64 s.pos, .int .i64 s.start, .int .i64 s.depth, .int .i64 s.org, .slice C s.caps.length d], .slice A b.length c, .int .i64 at_].toArray w0 (fun r w' => r = .returned (.tuple #[.agg #[.int .i64 0, .int .i64 0, .int .i64 0, .int .i64 0, .int .i64 0, .int .i64 0, .int .i64 0, .slice none 0 0], .int .i64 0, .int .i64 10]) ∧ Bel w0 w') := by
  have S := St.nil [] w0
  refine fn_start Try.func66 rfl 101 rfl rfl [(0, _), (1, _), (2, _)] ⟨rfl, rfl, rfl, trivial⟩ ?_; intro a E
  refine wp_seq ?_
  refine region_plain (n := 4) [(0, .e), (1, .e), (2, .p), (3, .p)] rfl rfl ?_
  refine Run.box (cs := [.int .i64 s.kind, .int .i64 s.node, .int .i64 s.phase, .int .i64 s.pos, .int .i64 s.start, .int .i64 s.depth, .int .i64 s.org, .slice C s.caps.length d]) rfl rfl E S rfl rfl rfl rfl ?_; clear E a S; intro b1 w a E S B_; clear B_
  refine Run.alloc rfl rfl E S rfl rfl z34 rfl ?_; clear E a S; intro b2 w a E S B_; clear B_
  refine Run.assign rfl E rfl rfl rfl ?_; clear E a; intro a E
  refine Run.assign rfl E rfl rfl rfl ?_; clear E a; intro a E
  refine Run.nil ?_
  refine then_n ?_
  refine wp_seq ?_
  refine wp_seq ?_
  refine region_plain (n := 3) [(0, .l), (1, .e), (2, .p)] rfl rfl ?_
  refine Run.loadN (cs := [.int .i64 s.kind, .int .i64 s.node, .int .i64 s.phase, .int .i64 s.pos, .int .i64 s.start, .int .i64 s.depth, .int .i64 s.org, .slice C s.caps.length d]) rfl rfl E S rfl rfl rfl ag34 rfl (fun _ s => objAll s 1 rfl) ?_; clear E a; intro a E
  refine Run.call (args := [.agg #[.int .i64 s.kind, .int .i64 s.node, .int .i64 s.phase, .int .i64 s.pos, .int .i64 s.start, .int .i64 s.depth, .int .i64 s.org, .slice C s.caps.length d]]) rfl rfl E rfl rfl Try.func95 nm95 rfl rfl (dbase_walk (s := s) (H2.bel S.belT) hs) ?_; rintro e_ w ⟨rfl, B_⟩; refine ⟨_, rfl, fun _ => B_, ?_⟩; clear E a; replace S := S.bel B_; intro a E
  clear B_
  replace E := E.setb 15 rfl (decide_eq_true hB)
  refine Run.not rfl E rfl rfl rfl rfl ?_; clear E a; intro a E
  refine Run.nil ?_
  refine then_n ?_
  refine cond_F E rfl ?_
  refine wp_skip ?_
  refine then_n ?_
  refine wp_seq ?_
  refine wp_seq ?_
  refine region_plain (n := 8) [(0, .p), (1, .p), (2, .p), (3, .p), (4, .p), (5, .p), (6, .p), (7, .p)] rfl rfl ?_
  refine Run.move rfl E rfl rfl rfl ?_; clear E a; intro a E
  refine Run.lss rfl E rfl rfl rfl rfl (decide_eq_false (by omega)) ?_; clear E a; intro a E
  refine Run.move rfl E rfl rfl rfl ?_; clear E a; intro a E
  refine Run.move rfl E rfl rfl rfl ?_; clear E a; intro a E
  refine Run.move rfl E rfl rfl rfl ?_; clear E a; intro a E
  refine Run.len rfl E rfl rfl rfl Try.underlying22 ?_; clear E a; intro a E
  refine Run.gtr rfl E rfl rfl rfl rfl (decide_eq_true (by omega)) ?_; clear E a; intro a E
  refine Run.pickF rfl E rfl rfl rfl rfl ?_; clear E a; intro a E
  refine Run.nil ?_
  refine then_n ?_
  refine cond_T E rfl ?_
  refine wp_seq ?_
  refine region_plain (n := 4) [(0, .p), (1, .l), (2, .p), (3, .p)] rfl rfl ?_
  refine Run.build (cs := #[.int .i64 0, .int .i64 0, .int .i64 0, .int .i64 0, .int .i64 0, .int .i64 0, .int .i64 0, .slice none 0 0]) [] rfl E rfl rfl rfl (by kernel_rfl) ?_; clear E a; intro a E
  refine Run.store (news := [.int .i64 0, .int .i64 0, .int .i64 0, .int .i64 0, .int .i64 0, .int .i64 0, .int .i64 0, .slice none 0 0]) (cs' := [_, _, _, _, _, _, _, _]) (hp' := [_, _]) 0 rfl E S rfl rfl rfl rfl rfl sz34 rfl rfl rfl rfl ?_; clear S; intro w S
  refine Run.assign rfl E rfl rfl rfl ?_; clear E a; intro a E
  refine Run.assign rfl E rfl rfl rfl ?_; clear E a; intro a E
  refine Run.nil ?_
  refine then_n ?_
  refine wp_ret ?_
  refine then_r ?_
  exact retN E (vs := [.agg #[.int .i64 0, .int .i64 0, .int .i64 0, .int .i64 0, .int .i64 0, .int .i64 0, .int .i64 0, .slice none 0 0], .int .i64 0, .int .i64 10]) Try.results66 (.cell (E.slot _ _ rfl) (run_loadVarAgg ag34 rfl (objAll S 0 rfl)) (.tmp (E.slot _ _ rfl) (.tmp (E.slot _ _ rfl) .nil))) rfl ⟨rfl, S.belT⟩

theorem right_lit {w0 : World} {A : Option Addr} {c : Nat} {T : Sta} {k n p o t d g : Int} {r : Int} {cs : List Int} (h : T = ⟨k, n, p, o, t, d, r, cs⟩) (H1 : Rd w0 A T.caps.length 1 (ints T.caps)) (hl : T.caps.length ≤ 140737488355328) : Calls Try.prog 26 [.agg #[.int .i64 k, .int .i64 n, .int .i64 p, .int .i64 o, .int .i64 t, .int .i64 d, .int .i64 r, .slice A T.caps.length c], .int .i64 g].toArray w0 (fun r w' => r = .returned (.bool (decide (T.Right g))) ∧ Bel w0 w') := by
  subst h; exact right_walk H1 hl

theorem inr_small {x : Int} (h : small x) : inr x := by unfold small at h; unfold inr; omega

set_option maxHeartbeats 4000000 in
theorem read_walk (H1 : Rd w0 A b.length 1 (u8s b)) (hb8 : ∀ x ∈ b, x < 256) (hl : b.length ≤ 140737488355328) (H2 : Rd w0 C s.caps.length 1 (ints s.caps)) (hs : s.caps.length ≤ 140737488355328) (hB : s.base) (h0 : 0 ≤ at_) (h1 : at_ ≤ (b.length : Int)) (hs200 : s.caps.length ≤ 202) : Calls Try.prog 66 [.agg #[.int .i64 s.kind, .int .i64 s.node, .int .i64 s.phase, .int .i64 s.pos, .int .i64 s.start, .int .i64 s.depth, .int .i64 s.org, .slice C s.caps.length d], .slice A b.length c, .int .i64 at_].toArray w0 (fun r w' => (∃ er : Nat, (((rdF s b at_).2.1 = er ∧ er ≠ 0) ∨ ((rdF s b at_).2.1 = 0 ∧ ¬ (rdF s b at_).2.2.Right s.groups ∧ er = 11)) ∧ r = .returned (.tuple #[.agg #[.int .i64 0, .int .i64 0, .int .i64 0, .int .i64 0, .int .i64 0, .int .i64 0, .int .i64 0, .slice none 0 0], .int .i64 0, .int .i64 (er : Int)]) ∧ Bel w0 w') ∨ ((rdF s b at_).2.1 = 0 ∧ (rdF s b at_).2.2.Right s.groups ∧ ∃ D e, r = .returned (.tuple #[.agg #[.int .i64 (((rdF s b at_).2.2).kind), .int .i64 (((rdF s b at_).2.2).node), .int .i64 (((rdF s b at_).2.2).phase), .int .i64 (((rdF s b at_).2.2).pos), .int .i64 (((rdF s b at_).2.2).start), .int .i64 (((rdF s b at_).2.2).depth), .int .i64 (((rdF s b at_).2.2).org), .slice D ((rdF s b at_).2.2.caps.length) e], .int .i64 (IntKind.i64.wrap ((rdF s b at_).1 - at_)), .int .i64 0]) ∧ St [] w0 w' [.row (.slice D (rdF s b at_).2.2.caps.length e) 3 1 (rdF s b at_).2.2.caps.length (ints (rdF s b at_).2.2.caps)])) := by
  have S := St.nil [] w0
  obtain ⟨hss, hsc⟩ := base_small hB
  refine fn_start Try.func66 rfl 101 rfl rfl [(0, _), (1, _), (2, _)] ⟨rfl, rfl, rfl, trivial⟩ ?_; intro a E
  refine wp_seq ?_
  refine region_plain (n := 4) [(0, .e), (1, .e), (2, .p), (3, .p)] rfl rfl ?_
  refine Run.box (cs := [.int .i64 s.kind, .int .i64 s.node, .int .i64 s.phase, .int .i64 s.pos, .int .i64 s.start, .int .i64 s.depth, .int .i64 s.org, .slice C s.caps.length d]) rfl rfl E S rfl rfl rfl rfl ?_; clear E a S; intro b1 w a E S B_; clear B_
  refine Run.alloc rfl rfl E S rfl rfl z34 rfl ?_; clear E a S; intro b2 w a E S B_; clear B_
  refine Run.assign rfl E rfl rfl rfl ?_; clear E a; intro a E
  refine Run.assign rfl E rfl rfl rfl ?_; clear E a; intro a E
  refine Run.nil ?_
  refine then_n ?_
  refine wp_seq ?_
  refine wp_seq ?_
  refine region_plain (n := 3) [(0, .l), (1, .e), (2, .p)] rfl rfl ?_
  refine Run.loadN (cs := [.int .i64 s.kind, .int .i64 s.node, .int .i64 s.phase, .int .i64 s.pos, .int .i64 s.start, .int .i64 s.depth, .int .i64 s.org, .slice C s.caps.length d]) rfl rfl E S rfl rfl rfl ag34 rfl (fun _ s => objAll s 1 rfl) ?_; clear E a; intro a E
  refine Run.call (args := [.agg #[.int .i64 s.kind, .int .i64 s.node, .int .i64 s.phase, .int .i64 s.pos, .int .i64 s.start, .int .i64 s.depth, .int .i64 s.org, .slice C s.caps.length d]]) rfl rfl E rfl rfl Try.func95 nm95 rfl rfl (dbase_walk (s := s) (H2.bel S.belT) hs) ?_; rintro e_ w ⟨rfl, B_⟩; refine ⟨_, rfl, fun _ => B_, ?_⟩; clear E a; replace S := S.bel B_; intro a E
  clear B_
  replace E := E.setb 15 rfl (decide_eq_true hB)
  refine Run.not rfl E rfl rfl rfl rfl ?_; clear E a; intro a E
  refine Run.nil ?_
  refine then_n ?_
  refine cond_F E rfl ?_
  refine wp_skip ?_
  refine then_n ?_
  refine wp_seq ?_
  refine wp_seq ?_
  refine region_plain (n := 8) [(0, .p), (1, .p), (2, .p), (3, .p), (4, .p), (5, .p), (6, .p), (7, .p)] rfl rfl ?_
  refine Run.move rfl E rfl rfl rfl ?_; clear E a; intro a E
  refine Run.lss rfl E rfl rfl rfl rfl (decide_eq_false (by omega)) ?_; clear E a; intro a E
  refine Run.move rfl E rfl rfl rfl ?_; clear E a; intro a E
  refine Run.move rfl E rfl rfl rfl ?_; clear E a; intro a E
  refine Run.move rfl E rfl rfl rfl ?_; clear E a; intro a E
  refine Run.len rfl E rfl rfl rfl Try.underlying22 ?_; clear E a; intro a E
  refine Run.gtr rfl E rfl rfl rfl rfl (decide_eq_false (by omega)) ?_; clear E a; intro a E
  refine Run.pickF rfl E rfl rfl rfl rfl ?_; clear E a; intro a E
  refine Run.nil ?_
  refine then_n ?_
  refine cond_F E rfl ?_
  refine wp_skip ?_
  refine then_n ?_
  refine wp_seq ?_
  refine region_plain (n := 5) [(0, .p), (1, .p), (2, .p), (3, .e), (4, .p)] rfl rfl ?_
  refine Run.move rfl E rfl rfl rfl ?_; clear E a; intro a E
  refine Run.move rfl E rfl rfl rfl ?_; clear E a; intro a E
  refine Run.build (cs := #[.slice A b.length c, .int .i64 at_, .int .i64 0]) [(0, .slice A b.length c), (1, .int .i64 at_)] rfl E rfl rfl rfl (by kernel_rfl) ?_; clear E a; intro a E
  refine Run.box (cs := [.slice A b.length c, .int .i64 at_, .int .i64 0]) rfl rfl E S rfl rfl rfl rfl ?_; clear E a S; intro b3 w a E S B_; clear B_
  replace S : St _ _ _ [.obj b3 152 [.slice A b.length c, .int .i64 at_, .int .i64 ((0 : Nat) : Int)], _, _] := S
  have hrf := (S.fresh b3 (by simp [fps, Ck.fp])).resolve_left (by simp)
  have hArw : 0 < b.length → ∀ b_ o, A = some ⟨b_, o, none⟩ → b_ ∉ [b3] := fun h b_ o e hm => by have := H1.lt h (by decide) e; rw [List.mem_singleton.1 hm] at this; omega
  refine Run.assign rfl E rfl rfl rfl ?_; clear E a; intro a E
  refine Run.nil ?_
  refine then_n ?_
  refine wp_seq ?_
  refine region_plain (n := 4) [(0, .l), (1, .e), (2, .e), (3, .l)] rfl rfl ?_
  refine Run.loadN (cs := [.int .i64 s.kind, .int .i64 s.node, .int .i64 s.phase, .int .i64 s.pos, .int .i64 s.start, .int .i64 s.depth, .int .i64 s.org, .slice C s.caps.length d]) rfl rfl E S rfl rfl rfl ag34 rfl (fun _ s => objAll s 2 rfl) ?_; clear E a; intro a E
  refine Run.call (args := [.agg #[.int .i64 s.kind, .int .i64 s.node, .int .i64 s.phase, .int .i64 s.pos, .int .i64 s.start, .int .i64 s.depth, .int .i64 s.org, .slice C s.caps.length d]]) rfl rfl E rfl rfl Try.func44 nm44 rfl rfl (own_walk (s := s) (H2.bel S.belT) (by omega)) ?_; rintro e_ w ⟨B4, d5, rfl, S_⟩; refine ⟨_, rfl, (fun _ => S_.belT), ?_⟩; clear E a; intro a E
  replace S : St _ _ _ [_, .obj _ _ [_, _, _], .obj _ _ [_, _, _, _, _, _, _, _], .obj _ _ [_, _, _, _, _, _, _, _]] := St.call (A := []) (R := [_, _, _]) S S_; clear S_
  refine Run.alloc rfl rfl E S rfl rfl z34 rfl ?_; clear E a S; intro b6 w a E S B_; clear B_
  refine Run.store (news := [.int .i64 s.kind, .int .i64 s.node, .int .i64 s.phase, .int .i64 s.pos, .int .i64 s.start, .int .i64 s.depth, .int .i64 s.org, .slice B4 s.caps.length d5]) (cs' := [_, _, _, _, _, _, _, _]) (hp' := [_, _, _, _, _]) 0 rfl E S rfl rfl rfl rfl rfl sz34 rfl rfl rfl rfl ?_; clear S; intro w S
  refine Run.nil ?_
  refine then_n ?_
  refine wp_seq ?_
  refine region_plain (n := 4) [(0, .p), (1, .l), (2, .p), (3, .l)] rfl rfl ?_
  refine Run.move rfl E rfl rfl rfl ?_; clear E a; intro a E
  replace S : St _ _ _ [_, _, _, _, _] := S.sel [2, 0, 1, 3, 4] _ rfl rfl
  refine Run.call (args := [.pointer (some ⟨b3, 0, none⟩), .int .i64 14]) rfl rfl E rfl rfl Try.func104 nm104 rfl rfl (number_walk (at_ := at_) (e := 0) (most := 14) (St.ownL (A := [.obj b3 152 [.slice A b.length c, .int .i64 at_, .int .i64 (0 : Int)]]) (R := [_, _, _, _]) S) (H1.bel S.belT) hb8 hl hArw (by omega) (by omega)) ?_; rintro e_ w ⟨rfl, S_⟩; refine ⟨_, rfl, (fun h => by cases h), ?_⟩; clear E a; intro a E
  replace S : St _ _ _ [_, _, _, _, _] := St.call (A := [.obj b3 152 [.slice A b.length c, .int .i64 at_, .int .i64 (0 : Int)]]) (R := [_, _, _, _]) S S_; clear S_
  obtain ⟨a7, e8, v9, hr10⟩ : ∃ (x : Int) (y : Nat) (z : Int), numR b at_ 0 14 = (x, y, z) := ⟨_, _, _, rfl⟩
  rw [hr10] at E S
  dsimp only at E S
  replace S : St _ _ _ [.obj b3 152 [.slice A b.length c, .int .i64 a7, .int .i64 (e8 : Int)], .obj b6 34 [.int .i64 s.kind, .int .i64 s.node, .int .i64 s.phase, .int .i64 s.pos, .int .i64 s.start, .int .i64 s.depth, .int .i64 s.org, .slice B4 s.caps.length d5], .row (.slice B4 s.caps.length d5) 3 1 s.caps.length (ints s.caps), .obj b2 34 [.int .i64 0, .int .i64 0, .int .i64 0, .int .i64 0, .int .i64 0, .int .i64 0, .int .i64 0, .slice none 0 0], .obj b1 34 [.int .i64 s.kind, .int .i64 s.node, .int .i64 s.phase, .int .i64 s.pos, .int .i64 s.start, .int .i64 s.depth, .int .i64 s.org, .slice C s.caps.length d]] := S
  have hvv9 := numR_ge b at_ 0 14 (by omega); rw [hr10] at hvv9; dsimp only at hvv9
  refine Run.fieldAddr rfl E rfl rfl rfl fo34_0 (rfl) ?_; clear E a; intro a E
  refine Run.store (news := [.int .i64 v9]) (cs' := [_, _, _, _, _, _, _, _]) (hp' := [_, _, _, _, _]) 1 rfl E S rfl rfl rfl rfl rfl sz3 rfl rfl rfl rfl ?_; clear S; intro w S
  refine Run.nil ?_
  refine then_n ?_
  refine wp_seq ?_
  refine region_plain (n := 3) [(0, .p), (1, .l), (2, .p)] rfl rfl ?_
  refine Run.move rfl E rfl rfl rfl ?_; clear E a; intro a E
  refine Run.call (args := [.pointer (some ⟨b3, 0, none⟩), .int .i64 127]) rfl rfl E rfl rfl Try.func104 nm104 rfl rfl (number_walk (at_ := a7) (e := e8) (most := 127) (St.ownL (A := [.obj b3 152 [.slice A b.length c, .int .i64 a7, .int .i64 (e8 : Int)]]) (R := [_, _, _, _]) S) (H1.bel S.belT) hb8 hl hArw (by omega) (by omega)) ?_; rintro e_ w ⟨rfl, S_⟩; refine ⟨_, rfl, (fun h => by cases h), ?_⟩; clear E a; intro a E
  replace S : St _ _ _ [_, _, _, _, _] := St.call (A := [.obj b3 152 [.slice A b.length c, .int .i64 a7, .int .i64 (e8 : Int)]]) (R := [_, _, _, _]) S S_; clear S_
  obtain ⟨a11, e12, v13, hr14⟩ : ∃ (x : Int) (y : Nat) (z : Int), numR b a7 e8 127 = (x, y, z) := ⟨_, _, _, rfl⟩
  rw [hr14] at E S
  dsimp only at E S
  replace S : St _ _ _ [.obj b3 152 [.slice A b.length c, .int .i64 a11, .int .i64 (e12 : Int)], .obj b6 34 [.int .i64 v9, .int .i64 s.node, .int .i64 s.phase, .int .i64 s.pos, .int .i64 s.start, .int .i64 s.depth, .int .i64 s.org, .slice B4 s.caps.length d5], .row (.slice B4 s.caps.length d5) 3 1 s.caps.length (ints s.caps), .obj b2 34 [.int .i64 0, .int .i64 0, .int .i64 0, .int .i64 0, .int .i64 0, .int .i64 0, .int .i64 0, .slice none 0 0], .obj b1 34 [.int .i64 s.kind, .int .i64 s.node, .int .i64 s.phase, .int .i64 s.pos, .int .i64 s.start, .int .i64 s.depth, .int .i64 s.org, .slice C s.caps.length d]] := S
  have hvv13 := numR_ge b a7 e8 127 (by omega); rw [hr14] at hvv13; dsimp only at hvv13
  obtain ⟨mk, hmk⟩ : ∃ mk : Nat, (mk : Int) = v13 := ⟨v13.toNat, by omega⟩
  have hmk7 : mk < 128 := by omega
  rw [← hmk] at E hr14
  refine Run.assign rfl E rfl rfl rfl ?_; clear E a; intro a E
  refine Run.nil ?_
  refine then_n ?_
  refine wp_seq ?_
  refine wp_seq ?_
  refine region_plain (n := 8) [(0, .p), (1, .p), (2, .p), (3, .p), (4, .p), (5, .p), (6, .p), (7, .p)] rfl rfl ?_
  refine Run.fieldAddr rfl E rfl rfl rfl fo34_1 (rfl) ?_; clear E a; intro a E
  refine Run.fieldAddr rfl E rfl rfl rfl fo34_2 (rfl) ?_; clear E a; intro a E
  refine Run.fieldAddr rfl E rfl rfl rfl fo34_3 (rfl) ?_; clear E a; intro a E
  refine Run.fieldAddr rfl E rfl rfl rfl fo34_4 (rfl) ?_; clear E a; intro a E
  refine Run.fieldAddr rfl E rfl rfl rfl fo34_5 (rfl) ?_; clear E a; intro a E
  refine Run.fieldAddr rfl E rfl rfl rfl fo34_6 (rfl) ?_; clear E a; intro a E
  refine Run.build (cs := #[.pointer (some ⟨b6, 1, none⟩), .pointer (some ⟨b6, 2, none⟩), .pointer (some ⟨b6, 3, none⟩), .pointer (some ⟨b6, 4, none⟩), .pointer (some ⟨b6, 5, none⟩), .pointer (some ⟨b6, 6, none⟩)]) [(0, .pointer (some ⟨b6, 1, none⟩)), (1, .pointer (some ⟨b6, 2, none⟩)), (2, .pointer (some ⟨b6, 3, none⟩)), (3, .pointer (some ⟨b6, 4, none⟩)), (4, .pointer (some ⟨b6, 5, none⟩)), (5, .pointer (some ⟨b6, 6, none⟩))] rfl E rfl rfl rfl (by kernel_rfl) ?_; clear E a; intro a E
  refine Run.move rfl E rfl rfl rfl ?_; clear E a; intro a E
  refine Run.nil ?_
  refine then_n ?_
  refine wp_block ?_
  replace S : St _ _ _ [_, _, _, _, _] := S.sel [0, 1, 2, 3, 4] _ rfl rfl
  refine wp_loop_ghost (fun n_ a w => ∃ i : Nat, ∃ p : Int, ∃ q : Nat, ∃ x0 : Int, ∃ x1 : Int, ∃ x2 : Int, ∃ x3 : Int, ∃ x4 : Int, ∃ x5 : Int, 6 - i = n_ ∧ Env 101 [(2, .int .i64 at_), (3, .pointer (some ⟨b1, 0, none⟩)), (6, .pointer (some ⟨b2, 0, none⟩)), (7, .int .i64 0), (8, .int .i64 0), (9, .pointer (some ⟨b3, 0, none⟩)), (10, .pointer (some ⟨b6, 0, none⟩)), (11, .int .i64 (mk : Int)), (44, .agg #[.pointer (some ⟨b6, 1, none⟩), .pointer (some ⟨b6, 2, none⟩), .pointer (some ⟨b6, 3, none⟩), .pointer (some ⟨b6, 4, none⟩), .pointer (some ⟨b6, 5, none⟩), .pointer (some ⟨b6, 6, none⟩)]), (45, .int .i64 (i : Int))] a ∧ St _ _ w [.obj b3 152 [.slice A b.length c, .int .i64 p, .int .i64 (q : Int)], .obj b6 34 [.int .i64 v9, .int .i64 x0, .int .i64 x1, .int .i64 x2, .int .i64 x3, .int .i64 x4, .int .i64 x5, .slice B4 s.caps.length d5], .row (.slice B4 s.caps.length d5) 3 1 s.caps.length (ints s.caps), .obj b2 34 [.int .i64 0, .int .i64 0, .int .i64 0, .int .i64 0, .int .i64 0, .int .i64 0, .int .i64 0, .slice none 0 0], .obj b1 34 [.int .i64 s.kind, .int .i64 s.node, .int .i64 s.phase, .int .i64 s.pos, .int .i64 s.start, .int .i64 s.depth, .int .i64 s.org, .slice C s.caps.length d]] ∧ (i ≤ 6) ∧ (flS b mk a11 e12 s.nums.tail i = (p, q, [x0, x1, x2, x3, x4, x5])) ∧ (∀ x ∈ [x0, x1, x2, x3, x4, x5], inr x)) _ ⟨0, a11, e12, s.node, s.phase, s.pos, s.start, s.depth, s.org, rfl, E.keeps [(2, _), (3, _), (6, _), (7, _), (8, _), (9, _), (10, _), (11, _), (44, _), (45, _)] ⟨rfl, rfl, rfl, rfl, rfl, rfl, rfl, rfl, rfl, rfl, trivial⟩, S, by decide, rfl, (fun x hx => inr_small (hss x (List.mem_cons_of_mem _ hx)))⟩ ?_
  clear E a S
  rintro n_ a w ⟨i, p, q, x0, x1, x2, x3, x4, x5, rfl, E, S, hi, hfl, hxr⟩
  refine wp_seq ?_
  refine region_plain (n := 1) [(0, .p)] rfl rfl ?_
  by_cases hlt : i < 6
  · skip
    rcases (by omega : i = 0 ∨ i = 1 ∨ i = 2 ∨ i = 3 ∨ i = 4 ∨ i = 5) with rfl | rfl | rfl | rfl | rfl | rfl
    · skip
      refine Run.lss rfl E rfl rfl rfl rfl (decide_eq_true (by decide)) ?_; clear E a; intro a E
      refine Run.nil ?_
      refine then_n ?_
      refine wp_seq ?_
      refine cond_T E rfl ?_
      refine wp_skip ?_
      refine then_n ?_
      refine wp_seq ?_
      refine wp_block ?_
      refine wp_seq ?_
      refine region_plain (n := 4) [(0, .p), (1, .p), (2, .p), (3, .p)] rfl rfl ?_
      refine Run.move rfl E rfl rfl rfl ?_; clear E a; intro a E
      refine Run.indexA rfl E rfl rfl rfl rfl Try.underlying154 (by kernel_rfl) (by kernel_rfl) (by decide) rfl ?_; clear E a; intro a E
      refine Run.assign rfl E rfl rfl rfl ?_; clear E a; intro a E
      refine Run.assign rfl E rfl rfl rfl ?_; clear E a; intro a E
      refine Run.nil ?_
      refine then_n ?_
      refine wp_seq ?_
      refine region_plain (n := 5) [(0, .p), (1, .p), (2, .p), (3, .p), (4, .p)] rfl rfl ?_
      refine Run.move rfl E rfl rfl rfl ?_; clear E a; intro a E
      refine Run.move rfl E rfl rfl rfl ?_; clear E a; intro a E
      refine Run.shr (n := 0) rfl E rfl rfl rfl rfl (by kernel_rfl) (q := ((mk / 2 ^ 0 : Nat) : Int)) (fdiv_pow mk 0) ?_; clear E a; intro a E
      refine Run.and rfl E rfl rfl rfl rfl (q := ((mk / 2 ^ 0 % 2 : Nat) : Int)) (i64_and_mask (mk / 2 ^ 0) 1 (by omega) (by decide)) ?_; clear E a; intro a E
      by_cases hbit : mk / 2 ^ 0 % 2 = 1
      · skip
        refine Run.eqi rfl E rfl rfl rfl rfl (decide_eq_true (by omega)) ?_; clear E a; intro a E
        refine Run.nil ?_
        refine then_n ?_
        refine cond_T E rfl ?_
        refine region_plain (n := 8) [(0, .p), (1, .p), (2, .p), (3, .p), (4, .l), (5, .l), (6, .p), (7, .l)] rfl rfl ?_
        refine Run.move rfl E rfl rfl rfl ?_; clear E a; intro a E
        refine Run.move rfl E rfl rfl rfl ?_; clear E a; intro a E
        refine Run.move rfl E rfl rfl rfl ?_; clear E a; intro a E
        refine Run.nilCheck rfl E rfl rfl rfl ?_; clear E a; intro a E
        refine Run.load1 rfl rfl E S rfl rfl rfl one3 (fun _ s => s.objCell 1 1 rfl rfl) ?_; clear E a; intro a E
        refine Run.call (args := [.pointer (some ⟨b3, 0, none⟩), .int .i64 x0]) rfl rfl E rfl rfl Try.func105 nm105 rfl rfl (more_walk (at_ := p) (e := q) (was := x0) (St.ownL (A := [.obj b3 152 [.slice A b.length c, .int .i64 p, .int .i64 (q : Int)]]) (R := [_, _, _, _]) S) (H1.bel S.belT) hb8 hl hArw (hxr _ (by simp))) ?_; rintro e_ w ⟨rfl, S_⟩; refine ⟨_, rfl, (fun h => by cases h), ?_⟩; clear E a; intro a E
        replace S : St _ _ _ [_, _, _, _, _] := St.call (A := [.obj b3 152 [.slice A b.length c, .int .i64 p, .int .i64 (q : Int)]]) (R := [_, _, _, _]) S S_; clear S_
        obtain ⟨a15, e16, v17, hr18⟩ : ∃ (x : Int) (y : Nat) (z : Int), morR b p q = (x, y, z) := ⟨_, _, _, rfl⟩
        rw [hr18] at E S
        dsimp only at E S
        replace S : St _ _ _ [.obj b3 152 [.slice A b.length c, .int .i64 a15, .int .i64 (e16 : Int)], .obj b6 34 [.int .i64 v9, .int .i64 x0, .int .i64 x1, .int .i64 x2, .int .i64 x3, .int .i64 x4, .int .i64 x5, .slice B4 s.caps.length d5], .row (.slice B4 s.caps.length d5) 3 1 s.caps.length (ints s.caps), .obj b2 34 [.int .i64 0, .int .i64 0, .int .i64 0, .int .i64 0, .int .i64 0, .int .i64 0, .int .i64 0, .slice none 0 0], .obj b1 34 [.int .i64 s.kind, .int .i64 s.node, .int .i64 s.phase, .int .i64 s.pos, .int .i64 s.start, .int .i64 s.depth, .int .i64 s.org, .slice C s.caps.length d]] := S
        refine Run.nilCheck rfl E rfl rfl rfl ?_; clear E a; intro a E
        refine Run.store (news := [.int .i64 (IntKind.i64.wrap (x0 + v17))]) (cs' := [_, _, _, _, _, _, _, _]) (hp' := [_, _, _, _, _]) 1 rfl E S rfl rfl rfl rfl rfl sz3 rfl rfl rfl rfl ?_; clear S; intro w S
        refine Run.nil ?_
        refine blk_n ?_
        refine then_n ?_
        refine region_plain (n := 2) [(0, .p), (1, .p)] rfl rfl ?_
        refine Run.add rfl E rfl rfl rfl rfl (i64_ok (by omega)) ?_; clear E a; intro a E
        refine Run.move rfl E rfl rfl rfl ?_; clear E a; intro a E
        refine Run.nil ?_
        refine then_n ?_
        replace E := E.setv 45 rfl (show Value.int .i64 (((0 : Nat) : Int) + 1) = .int .i64 ((0 + 1 : Nat) : Int) from rfl)
        exact ⟨_, (by decide), (0 + 1), a15, e16, (IntKind.i64.wrap (x0 + v17)), x1, x2, x3, x4, x5, rfl, E.keeps [(2, _), (3, _), (6, _), (7, _), (8, _), (9, _), (10, _), (11, _), (44, _), (45, _)] ⟨rfl, rfl, rfl, rfl, rfl, rfl, rfl, rfl, rfl, rfl, trivial⟩, S, (by decide), (flS_on (x := x0) hfl hbit hr18 rfl), (fun x hx => by simp only [List.mem_cons, List.not_mem_nil, or_false] at hx; rcases hx with rfl | rfl | rfl | rfl | rfl | rfl <;> first | exact inr_wrap _ | exact hxr _ (by simp))⟩
      · skip
        refine Run.eqi rfl E rfl rfl rfl rfl (decide_eq_false (by omega)) ?_; clear E a; intro a E
        refine Run.nil ?_
        refine then_n ?_
        refine cond_F E rfl ?_
        refine wp_skip ?_
        refine blk_n ?_
        refine then_n ?_
        refine region_plain (n := 2) [(0, .p), (1, .p)] rfl rfl ?_
        refine Run.add rfl E rfl rfl rfl rfl (i64_ok (by omega)) ?_; clear E a; intro a E
        refine Run.move rfl E rfl rfl rfl ?_; clear E a; intro a E
        refine Run.nil ?_
        refine then_n ?_
        replace E := E.setv 45 rfl (show Value.int .i64 (((0 : Nat) : Int) + 1) = .int .i64 ((0 + 1 : Nat) : Int) from rfl)
        exact ⟨_, (by decide), (0 + 1), p, q, x0, x1, x2, x3, x4, x5, rfl, E.keeps [(2, _), (3, _), (6, _), (7, _), (8, _), (9, _), (10, _), (11, _), (44, _), (45, _)] ⟨rfl, rfl, rfl, rfl, rfl, rfl, rfl, rfl, rfl, rfl, trivial⟩, S, (by decide), (flS_off hfl hbit), hxr⟩
    · skip
      refine Run.lss rfl E rfl rfl rfl rfl (decide_eq_true (by decide)) ?_; clear E a; intro a E
      refine Run.nil ?_
      refine then_n ?_
      refine wp_seq ?_
      refine cond_T E rfl ?_
      refine wp_skip ?_
      refine then_n ?_
      refine wp_seq ?_
      refine wp_block ?_
      refine wp_seq ?_
      refine region_plain (n := 4) [(0, .p), (1, .p), (2, .p), (3, .p)] rfl rfl ?_
      refine Run.move rfl E rfl rfl rfl ?_; clear E a; intro a E
      refine Run.indexA rfl E rfl rfl rfl rfl Try.underlying154 (by kernel_rfl) (by kernel_rfl) (by decide) rfl ?_; clear E a; intro a E
      refine Run.assign rfl E rfl rfl rfl ?_; clear E a; intro a E
      refine Run.assign rfl E rfl rfl rfl ?_; clear E a; intro a E
      refine Run.nil ?_
      refine then_n ?_
      refine wp_seq ?_
      refine region_plain (n := 5) [(0, .p), (1, .p), (2, .p), (3, .p), (4, .p)] rfl rfl ?_
      refine Run.move rfl E rfl rfl rfl ?_; clear E a; intro a E
      refine Run.move rfl E rfl rfl rfl ?_; clear E a; intro a E
      refine Run.shr (n := 1) rfl E rfl rfl rfl rfl (by kernel_rfl) (q := ((mk / 2 ^ 1 : Nat) : Int)) (fdiv_pow mk 1) ?_; clear E a; intro a E
      refine Run.and rfl E rfl rfl rfl rfl (q := ((mk / 2 ^ 1 % 2 : Nat) : Int)) (i64_and_mask (mk / 2 ^ 1) 1 (by omega) (by decide)) ?_; clear E a; intro a E
      by_cases hbit : mk / 2 ^ 1 % 2 = 1
      · skip
        refine Run.eqi rfl E rfl rfl rfl rfl (decide_eq_true (by omega)) ?_; clear E a; intro a E
        refine Run.nil ?_
        refine then_n ?_
        refine cond_T E rfl ?_
        refine region_plain (n := 8) [(0, .p), (1, .p), (2, .p), (3, .p), (4, .l), (5, .l), (6, .p), (7, .l)] rfl rfl ?_
        refine Run.move rfl E rfl rfl rfl ?_; clear E a; intro a E
        refine Run.move rfl E rfl rfl rfl ?_; clear E a; intro a E
        refine Run.move rfl E rfl rfl rfl ?_; clear E a; intro a E
        refine Run.nilCheck rfl E rfl rfl rfl ?_; clear E a; intro a E
        refine Run.load1 rfl rfl E S rfl rfl rfl one3 (fun _ s => s.objCell 1 2 rfl rfl) ?_; clear E a; intro a E
        refine Run.call (args := [.pointer (some ⟨b3, 0, none⟩), .int .i64 x1]) rfl rfl E rfl rfl Try.func105 nm105 rfl rfl (more_walk (at_ := p) (e := q) (was := x1) (St.ownL (A := [.obj b3 152 [.slice A b.length c, .int .i64 p, .int .i64 (q : Int)]]) (R := [_, _, _, _]) S) (H1.bel S.belT) hb8 hl hArw (hxr _ (by simp))) ?_; rintro e_ w ⟨rfl, S_⟩; refine ⟨_, rfl, (fun h => by cases h), ?_⟩; clear E a; intro a E
        replace S : St _ _ _ [_, _, _, _, _] := St.call (A := [.obj b3 152 [.slice A b.length c, .int .i64 p, .int .i64 (q : Int)]]) (R := [_, _, _, _]) S S_; clear S_
        obtain ⟨a19, e20, v21, hr22⟩ : ∃ (x : Int) (y : Nat) (z : Int), morR b p q = (x, y, z) := ⟨_, _, _, rfl⟩
        rw [hr22] at E S
        dsimp only at E S
        replace S : St _ _ _ [.obj b3 152 [.slice A b.length c, .int .i64 a19, .int .i64 (e20 : Int)], .obj b6 34 [.int .i64 v9, .int .i64 x0, .int .i64 x1, .int .i64 x2, .int .i64 x3, .int .i64 x4, .int .i64 x5, .slice B4 s.caps.length d5], .row (.slice B4 s.caps.length d5) 3 1 s.caps.length (ints s.caps), .obj b2 34 [.int .i64 0, .int .i64 0, .int .i64 0, .int .i64 0, .int .i64 0, .int .i64 0, .int .i64 0, .slice none 0 0], .obj b1 34 [.int .i64 s.kind, .int .i64 s.node, .int .i64 s.phase, .int .i64 s.pos, .int .i64 s.start, .int .i64 s.depth, .int .i64 s.org, .slice C s.caps.length d]] := S
        refine Run.nilCheck rfl E rfl rfl rfl ?_; clear E a; intro a E
        refine Run.store (news := [.int .i64 (IntKind.i64.wrap (x1 + v21))]) (cs' := [_, _, _, _, _, _, _, _]) (hp' := [_, _, _, _, _]) 1 rfl E S rfl rfl rfl rfl rfl sz3 rfl rfl rfl rfl ?_; clear S; intro w S
        refine Run.nil ?_
        refine blk_n ?_
        refine then_n ?_
        refine region_plain (n := 2) [(0, .p), (1, .p)] rfl rfl ?_
        refine Run.add rfl E rfl rfl rfl rfl (i64_ok (by omega)) ?_; clear E a; intro a E
        refine Run.move rfl E rfl rfl rfl ?_; clear E a; intro a E
        refine Run.nil ?_
        refine then_n ?_
        replace E := E.setv 45 rfl (show Value.int .i64 (((1 : Nat) : Int) + 1) = .int .i64 ((1 + 1 : Nat) : Int) from rfl)
        exact ⟨_, (by decide), (1 + 1), a19, e20, x0, (IntKind.i64.wrap (x1 + v21)), x2, x3, x4, x5, rfl, E.keeps [(2, _), (3, _), (6, _), (7, _), (8, _), (9, _), (10, _), (11, _), (44, _), (45, _)] ⟨rfl, rfl, rfl, rfl, rfl, rfl, rfl, rfl, rfl, rfl, trivial⟩, S, (by decide), (flS_on (x := x1) hfl hbit hr22 rfl), (fun x hx => by simp only [List.mem_cons, List.not_mem_nil, or_false] at hx; rcases hx with rfl | rfl | rfl | rfl | rfl | rfl <;> first | exact inr_wrap _ | exact hxr _ (by simp))⟩
      · skip
        refine Run.eqi rfl E rfl rfl rfl rfl (decide_eq_false (by omega)) ?_; clear E a; intro a E
        refine Run.nil ?_
        refine then_n ?_
        refine cond_F E rfl ?_
        refine wp_skip ?_
        refine blk_n ?_
        refine then_n ?_
        refine region_plain (n := 2) [(0, .p), (1, .p)] rfl rfl ?_
        refine Run.add rfl E rfl rfl rfl rfl (i64_ok (by omega)) ?_; clear E a; intro a E
        refine Run.move rfl E rfl rfl rfl ?_; clear E a; intro a E
        refine Run.nil ?_
        refine then_n ?_
        replace E := E.setv 45 rfl (show Value.int .i64 (((1 : Nat) : Int) + 1) = .int .i64 ((1 + 1 : Nat) : Int) from rfl)
        exact ⟨_, (by decide), (1 + 1), p, q, x0, x1, x2, x3, x4, x5, rfl, E.keeps [(2, _), (3, _), (6, _), (7, _), (8, _), (9, _), (10, _), (11, _), (44, _), (45, _)] ⟨rfl, rfl, rfl, rfl, rfl, rfl, rfl, rfl, rfl, rfl, trivial⟩, S, (by decide), (flS_off hfl hbit), hxr⟩
    · skip
      refine Run.lss rfl E rfl rfl rfl rfl (decide_eq_true (by decide)) ?_; clear E a; intro a E
      refine Run.nil ?_
      refine then_n ?_
      refine wp_seq ?_
      refine cond_T E rfl ?_
      refine wp_skip ?_
      refine then_n ?_
      refine wp_seq ?_
      refine wp_block ?_
      refine wp_seq ?_
      refine region_plain (n := 4) [(0, .p), (1, .p), (2, .p), (3, .p)] rfl rfl ?_
      refine Run.move rfl E rfl rfl rfl ?_; clear E a; intro a E
      refine Run.indexA rfl E rfl rfl rfl rfl Try.underlying154 (by kernel_rfl) (by kernel_rfl) (by decide) rfl ?_; clear E a; intro a E
      refine Run.assign rfl E rfl rfl rfl ?_; clear E a; intro a E
      refine Run.assign rfl E rfl rfl rfl ?_; clear E a; intro a E
      refine Run.nil ?_
      refine then_n ?_
      refine wp_seq ?_
      refine region_plain (n := 5) [(0, .p), (1, .p), (2, .p), (3, .p), (4, .p)] rfl rfl ?_
      refine Run.move rfl E rfl rfl rfl ?_; clear E a; intro a E
      refine Run.move rfl E rfl rfl rfl ?_; clear E a; intro a E
      refine Run.shr (n := 2) rfl E rfl rfl rfl rfl (by kernel_rfl) (q := ((mk / 2 ^ 2 : Nat) : Int)) (fdiv_pow mk 2) ?_; clear E a; intro a E
      refine Run.and rfl E rfl rfl rfl rfl (q := ((mk / 2 ^ 2 % 2 : Nat) : Int)) (i64_and_mask (mk / 2 ^ 2) 1 (by omega) (by decide)) ?_; clear E a; intro a E
      by_cases hbit : mk / 2 ^ 2 % 2 = 1
      · skip
        refine Run.eqi rfl E rfl rfl rfl rfl (decide_eq_true (by omega)) ?_; clear E a; intro a E
        refine Run.nil ?_
        refine then_n ?_
        refine cond_T E rfl ?_
        refine region_plain (n := 8) [(0, .p), (1, .p), (2, .p), (3, .p), (4, .l), (5, .l), (6, .p), (7, .l)] rfl rfl ?_
        refine Run.move rfl E rfl rfl rfl ?_; clear E a; intro a E
        refine Run.move rfl E rfl rfl rfl ?_; clear E a; intro a E
        refine Run.move rfl E rfl rfl rfl ?_; clear E a; intro a E
        refine Run.nilCheck rfl E rfl rfl rfl ?_; clear E a; intro a E
        refine Run.load1 rfl rfl E S rfl rfl rfl one3 (fun _ s => s.objCell 1 3 rfl rfl) ?_; clear E a; intro a E
        refine Run.call (args := [.pointer (some ⟨b3, 0, none⟩), .int .i64 x2]) rfl rfl E rfl rfl Try.func105 nm105 rfl rfl (more_walk (at_ := p) (e := q) (was := x2) (St.ownL (A := [.obj b3 152 [.slice A b.length c, .int .i64 p, .int .i64 (q : Int)]]) (R := [_, _, _, _]) S) (H1.bel S.belT) hb8 hl hArw (hxr _ (by simp))) ?_; rintro e_ w ⟨rfl, S_⟩; refine ⟨_, rfl, (fun h => by cases h), ?_⟩; clear E a; intro a E
        replace S : St _ _ _ [_, _, _, _, _] := St.call (A := [.obj b3 152 [.slice A b.length c, .int .i64 p, .int .i64 (q : Int)]]) (R := [_, _, _, _]) S S_; clear S_
        obtain ⟨a23, e24, v25, hr26⟩ : ∃ (x : Int) (y : Nat) (z : Int), morR b p q = (x, y, z) := ⟨_, _, _, rfl⟩
        rw [hr26] at E S
        dsimp only at E S
        replace S : St _ _ _ [.obj b3 152 [.slice A b.length c, .int .i64 a23, .int .i64 (e24 : Int)], .obj b6 34 [.int .i64 v9, .int .i64 x0, .int .i64 x1, .int .i64 x2, .int .i64 x3, .int .i64 x4, .int .i64 x5, .slice B4 s.caps.length d5], .row (.slice B4 s.caps.length d5) 3 1 s.caps.length (ints s.caps), .obj b2 34 [.int .i64 0, .int .i64 0, .int .i64 0, .int .i64 0, .int .i64 0, .int .i64 0, .int .i64 0, .slice none 0 0], .obj b1 34 [.int .i64 s.kind, .int .i64 s.node, .int .i64 s.phase, .int .i64 s.pos, .int .i64 s.start, .int .i64 s.depth, .int .i64 s.org, .slice C s.caps.length d]] := S
        refine Run.nilCheck rfl E rfl rfl rfl ?_; clear E a; intro a E
        refine Run.store (news := [.int .i64 (IntKind.i64.wrap (x2 + v25))]) (cs' := [_, _, _, _, _, _, _, _]) (hp' := [_, _, _, _, _]) 1 rfl E S rfl rfl rfl rfl rfl sz3 rfl rfl rfl rfl ?_; clear S; intro w S
        refine Run.nil ?_
        refine blk_n ?_
        refine then_n ?_
        refine region_plain (n := 2) [(0, .p), (1, .p)] rfl rfl ?_
        refine Run.add rfl E rfl rfl rfl rfl (i64_ok (by omega)) ?_; clear E a; intro a E
        refine Run.move rfl E rfl rfl rfl ?_; clear E a; intro a E
        refine Run.nil ?_
        refine then_n ?_
        replace E := E.setv 45 rfl (show Value.int .i64 (((2 : Nat) : Int) + 1) = .int .i64 ((2 + 1 : Nat) : Int) from rfl)
        exact ⟨_, (by decide), (2 + 1), a23, e24, x0, x1, (IntKind.i64.wrap (x2 + v25)), x3, x4, x5, rfl, E.keeps [(2, _), (3, _), (6, _), (7, _), (8, _), (9, _), (10, _), (11, _), (44, _), (45, _)] ⟨rfl, rfl, rfl, rfl, rfl, rfl, rfl, rfl, rfl, rfl, trivial⟩, S, (by decide), (flS_on (x := x2) hfl hbit hr26 rfl), (fun x hx => by simp only [List.mem_cons, List.not_mem_nil, or_false] at hx; rcases hx with rfl | rfl | rfl | rfl | rfl | rfl <;> first | exact inr_wrap _ | exact hxr _ (by simp))⟩
      · skip
        refine Run.eqi rfl E rfl rfl rfl rfl (decide_eq_false (by omega)) ?_; clear E a; intro a E
        refine Run.nil ?_
        refine then_n ?_
        refine cond_F E rfl ?_
        refine wp_skip ?_
        refine blk_n ?_
        refine then_n ?_
        refine region_plain (n := 2) [(0, .p), (1, .p)] rfl rfl ?_
        refine Run.add rfl E rfl rfl rfl rfl (i64_ok (by omega)) ?_; clear E a; intro a E
        refine Run.move rfl E rfl rfl rfl ?_; clear E a; intro a E
        refine Run.nil ?_
        refine then_n ?_
        replace E := E.setv 45 rfl (show Value.int .i64 (((2 : Nat) : Int) + 1) = .int .i64 ((2 + 1 : Nat) : Int) from rfl)
        exact ⟨_, (by decide), (2 + 1), p, q, x0, x1, x2, x3, x4, x5, rfl, E.keeps [(2, _), (3, _), (6, _), (7, _), (8, _), (9, _), (10, _), (11, _), (44, _), (45, _)] ⟨rfl, rfl, rfl, rfl, rfl, rfl, rfl, rfl, rfl, rfl, trivial⟩, S, (by decide), (flS_off hfl hbit), hxr⟩
    · skip
      refine Run.lss rfl E rfl rfl rfl rfl (decide_eq_true (by decide)) ?_; clear E a; intro a E
      refine Run.nil ?_
      refine then_n ?_
      refine wp_seq ?_
      refine cond_T E rfl ?_
      refine wp_skip ?_
      refine then_n ?_
      refine wp_seq ?_
      refine wp_block ?_
      refine wp_seq ?_
      refine region_plain (n := 4) [(0, .p), (1, .p), (2, .p), (3, .p)] rfl rfl ?_
      refine Run.move rfl E rfl rfl rfl ?_; clear E a; intro a E
      refine Run.indexA rfl E rfl rfl rfl rfl Try.underlying154 (by kernel_rfl) (by kernel_rfl) (by decide) rfl ?_; clear E a; intro a E
      refine Run.assign rfl E rfl rfl rfl ?_; clear E a; intro a E
      refine Run.assign rfl E rfl rfl rfl ?_; clear E a; intro a E
      refine Run.nil ?_
      refine then_n ?_
      refine wp_seq ?_
      refine region_plain (n := 5) [(0, .p), (1, .p), (2, .p), (3, .p), (4, .p)] rfl rfl ?_
      refine Run.move rfl E rfl rfl rfl ?_; clear E a; intro a E
      refine Run.move rfl E rfl rfl rfl ?_; clear E a; intro a E
      refine Run.shr (n := 3) rfl E rfl rfl rfl rfl (by kernel_rfl) (q := ((mk / 2 ^ 3 : Nat) : Int)) (fdiv_pow mk 3) ?_; clear E a; intro a E
      refine Run.and rfl E rfl rfl rfl rfl (q := ((mk / 2 ^ 3 % 2 : Nat) : Int)) (i64_and_mask (mk / 2 ^ 3) 1 (by omega) (by decide)) ?_; clear E a; intro a E
      by_cases hbit : mk / 2 ^ 3 % 2 = 1
      · skip
        refine Run.eqi rfl E rfl rfl rfl rfl (decide_eq_true (by omega)) ?_; clear E a; intro a E
        refine Run.nil ?_
        refine then_n ?_
        refine cond_T E rfl ?_
        refine region_plain (n := 8) [(0, .p), (1, .p), (2, .p), (3, .p), (4, .l), (5, .l), (6, .p), (7, .l)] rfl rfl ?_
        refine Run.move rfl E rfl rfl rfl ?_; clear E a; intro a E
        refine Run.move rfl E rfl rfl rfl ?_; clear E a; intro a E
        refine Run.move rfl E rfl rfl rfl ?_; clear E a; intro a E
        refine Run.nilCheck rfl E rfl rfl rfl ?_; clear E a; intro a E
        refine Run.load1 rfl rfl E S rfl rfl rfl one3 (fun _ s => s.objCell 1 4 rfl rfl) ?_; clear E a; intro a E
        refine Run.call (args := [.pointer (some ⟨b3, 0, none⟩), .int .i64 x3]) rfl rfl E rfl rfl Try.func105 nm105 rfl rfl (more_walk (at_ := p) (e := q) (was := x3) (St.ownL (A := [.obj b3 152 [.slice A b.length c, .int .i64 p, .int .i64 (q : Int)]]) (R := [_, _, _, _]) S) (H1.bel S.belT) hb8 hl hArw (hxr _ (by simp))) ?_; rintro e_ w ⟨rfl, S_⟩; refine ⟨_, rfl, (fun h => by cases h), ?_⟩; clear E a; intro a E
        replace S : St _ _ _ [_, _, _, _, _] := St.call (A := [.obj b3 152 [.slice A b.length c, .int .i64 p, .int .i64 (q : Int)]]) (R := [_, _, _, _]) S S_; clear S_
        obtain ⟨a27, e28, v29, hr30⟩ : ∃ (x : Int) (y : Nat) (z : Int), morR b p q = (x, y, z) := ⟨_, _, _, rfl⟩
        rw [hr30] at E S
        dsimp only at E S
        replace S : St _ _ _ [.obj b3 152 [.slice A b.length c, .int .i64 a27, .int .i64 (e28 : Int)], .obj b6 34 [.int .i64 v9, .int .i64 x0, .int .i64 x1, .int .i64 x2, .int .i64 x3, .int .i64 x4, .int .i64 x5, .slice B4 s.caps.length d5], .row (.slice B4 s.caps.length d5) 3 1 s.caps.length (ints s.caps), .obj b2 34 [.int .i64 0, .int .i64 0, .int .i64 0, .int .i64 0, .int .i64 0, .int .i64 0, .int .i64 0, .slice none 0 0], .obj b1 34 [.int .i64 s.kind, .int .i64 s.node, .int .i64 s.phase, .int .i64 s.pos, .int .i64 s.start, .int .i64 s.depth, .int .i64 s.org, .slice C s.caps.length d]] := S
        refine Run.nilCheck rfl E rfl rfl rfl ?_; clear E a; intro a E
        refine Run.store (news := [.int .i64 (IntKind.i64.wrap (x3 + v29))]) (cs' := [_, _, _, _, _, _, _, _]) (hp' := [_, _, _, _, _]) 1 rfl E S rfl rfl rfl rfl rfl sz3 rfl rfl rfl rfl ?_; clear S; intro w S
        refine Run.nil ?_
        refine blk_n ?_
        refine then_n ?_
        refine region_plain (n := 2) [(0, .p), (1, .p)] rfl rfl ?_
        refine Run.add rfl E rfl rfl rfl rfl (i64_ok (by omega)) ?_; clear E a; intro a E
        refine Run.move rfl E rfl rfl rfl ?_; clear E a; intro a E
        refine Run.nil ?_
        refine then_n ?_
        replace E := E.setv 45 rfl (show Value.int .i64 (((3 : Nat) : Int) + 1) = .int .i64 ((3 + 1 : Nat) : Int) from rfl)
        exact ⟨_, (by decide), (3 + 1), a27, e28, x0, x1, x2, (IntKind.i64.wrap (x3 + v29)), x4, x5, rfl, E.keeps [(2, _), (3, _), (6, _), (7, _), (8, _), (9, _), (10, _), (11, _), (44, _), (45, _)] ⟨rfl, rfl, rfl, rfl, rfl, rfl, rfl, rfl, rfl, rfl, trivial⟩, S, (by decide), (flS_on (x := x3) hfl hbit hr30 rfl), (fun x hx => by simp only [List.mem_cons, List.not_mem_nil, or_false] at hx; rcases hx with rfl | rfl | rfl | rfl | rfl | rfl <;> first | exact inr_wrap _ | exact hxr _ (by simp))⟩
      · skip
        refine Run.eqi rfl E rfl rfl rfl rfl (decide_eq_false (by omega)) ?_; clear E a; intro a E
        refine Run.nil ?_
        refine then_n ?_
        refine cond_F E rfl ?_
        refine wp_skip ?_
        refine blk_n ?_
        refine then_n ?_
        refine region_plain (n := 2) [(0, .p), (1, .p)] rfl rfl ?_
        refine Run.add rfl E rfl rfl rfl rfl (i64_ok (by omega)) ?_; clear E a; intro a E
        refine Run.move rfl E rfl rfl rfl ?_; clear E a; intro a E
        refine Run.nil ?_
        refine then_n ?_
        replace E := E.setv 45 rfl (show Value.int .i64 (((3 : Nat) : Int) + 1) = .int .i64 ((3 + 1 : Nat) : Int) from rfl)
        exact ⟨_, (by decide), (3 + 1), p, q, x0, x1, x2, x3, x4, x5, rfl, E.keeps [(2, _), (3, _), (6, _), (7, _), (8, _), (9, _), (10, _), (11, _), (44, _), (45, _)] ⟨rfl, rfl, rfl, rfl, rfl, rfl, rfl, rfl, rfl, rfl, trivial⟩, S, (by decide), (flS_off hfl hbit), hxr⟩
    · skip
      refine Run.lss rfl E rfl rfl rfl rfl (decide_eq_true (by decide)) ?_; clear E a; intro a E
      refine Run.nil ?_
      refine then_n ?_
      refine wp_seq ?_
      refine cond_T E rfl ?_
      refine wp_skip ?_
      refine then_n ?_
      refine wp_seq ?_
      refine wp_block ?_
      refine wp_seq ?_
      refine region_plain (n := 4) [(0, .p), (1, .p), (2, .p), (3, .p)] rfl rfl ?_
      refine Run.move rfl E rfl rfl rfl ?_; clear E a; intro a E
      refine Run.indexA rfl E rfl rfl rfl rfl Try.underlying154 (by kernel_rfl) (by kernel_rfl) (by decide) rfl ?_; clear E a; intro a E
      refine Run.assign rfl E rfl rfl rfl ?_; clear E a; intro a E
      refine Run.assign rfl E rfl rfl rfl ?_; clear E a; intro a E
      refine Run.nil ?_
      refine then_n ?_
      refine wp_seq ?_
      refine region_plain (n := 5) [(0, .p), (1, .p), (2, .p), (3, .p), (4, .p)] rfl rfl ?_
      refine Run.move rfl E rfl rfl rfl ?_; clear E a; intro a E
      refine Run.move rfl E rfl rfl rfl ?_; clear E a; intro a E
      refine Run.shr (n := 4) rfl E rfl rfl rfl rfl (by kernel_rfl) (q := ((mk / 2 ^ 4 : Nat) : Int)) (fdiv_pow mk 4) ?_; clear E a; intro a E
      refine Run.and rfl E rfl rfl rfl rfl (q := ((mk / 2 ^ 4 % 2 : Nat) : Int)) (i64_and_mask (mk / 2 ^ 4) 1 (by omega) (by decide)) ?_; clear E a; intro a E
      by_cases hbit : mk / 2 ^ 4 % 2 = 1
      · skip
        refine Run.eqi rfl E rfl rfl rfl rfl (decide_eq_true (by omega)) ?_; clear E a; intro a E
        refine Run.nil ?_
        refine then_n ?_
        refine cond_T E rfl ?_
        refine region_plain (n := 8) [(0, .p), (1, .p), (2, .p), (3, .p), (4, .l), (5, .l), (6, .p), (7, .l)] rfl rfl ?_
        refine Run.move rfl E rfl rfl rfl ?_; clear E a; intro a E
        refine Run.move rfl E rfl rfl rfl ?_; clear E a; intro a E
        refine Run.move rfl E rfl rfl rfl ?_; clear E a; intro a E
        refine Run.nilCheck rfl E rfl rfl rfl ?_; clear E a; intro a E
        refine Run.load1 rfl rfl E S rfl rfl rfl one3 (fun _ s => s.objCell 1 5 rfl rfl) ?_; clear E a; intro a E
        refine Run.call (args := [.pointer (some ⟨b3, 0, none⟩), .int .i64 x4]) rfl rfl E rfl rfl Try.func105 nm105 rfl rfl (more_walk (at_ := p) (e := q) (was := x4) (St.ownL (A := [.obj b3 152 [.slice A b.length c, .int .i64 p, .int .i64 (q : Int)]]) (R := [_, _, _, _]) S) (H1.bel S.belT) hb8 hl hArw (hxr _ (by simp))) ?_; rintro e_ w ⟨rfl, S_⟩; refine ⟨_, rfl, (fun h => by cases h), ?_⟩; clear E a; intro a E
        replace S : St _ _ _ [_, _, _, _, _] := St.call (A := [.obj b3 152 [.slice A b.length c, .int .i64 p, .int .i64 (q : Int)]]) (R := [_, _, _, _]) S S_; clear S_
        obtain ⟨a31, e32, v33, hr34⟩ : ∃ (x : Int) (y : Nat) (z : Int), morR b p q = (x, y, z) := ⟨_, _, _, rfl⟩
        rw [hr34] at E S
        dsimp only at E S
        replace S : St _ _ _ [.obj b3 152 [.slice A b.length c, .int .i64 a31, .int .i64 (e32 : Int)], .obj b6 34 [.int .i64 v9, .int .i64 x0, .int .i64 x1, .int .i64 x2, .int .i64 x3, .int .i64 x4, .int .i64 x5, .slice B4 s.caps.length d5], .row (.slice B4 s.caps.length d5) 3 1 s.caps.length (ints s.caps), .obj b2 34 [.int .i64 0, .int .i64 0, .int .i64 0, .int .i64 0, .int .i64 0, .int .i64 0, .int .i64 0, .slice none 0 0], .obj b1 34 [.int .i64 s.kind, .int .i64 s.node, .int .i64 s.phase, .int .i64 s.pos, .int .i64 s.start, .int .i64 s.depth, .int .i64 s.org, .slice C s.caps.length d]] := S
        refine Run.nilCheck rfl E rfl rfl rfl ?_; clear E a; intro a E
        refine Run.store (news := [.int .i64 (IntKind.i64.wrap (x4 + v33))]) (cs' := [_, _, _, _, _, _, _, _]) (hp' := [_, _, _, _, _]) 1 rfl E S rfl rfl rfl rfl rfl sz3 rfl rfl rfl rfl ?_; clear S; intro w S
        refine Run.nil ?_
        refine blk_n ?_
        refine then_n ?_
        refine region_plain (n := 2) [(0, .p), (1, .p)] rfl rfl ?_
        refine Run.add rfl E rfl rfl rfl rfl (i64_ok (by omega)) ?_; clear E a; intro a E
        refine Run.move rfl E rfl rfl rfl ?_; clear E a; intro a E
        refine Run.nil ?_
        refine then_n ?_
        replace E := E.setv 45 rfl (show Value.int .i64 (((4 : Nat) : Int) + 1) = .int .i64 ((4 + 1 : Nat) : Int) from rfl)
        exact ⟨_, (by decide), (4 + 1), a31, e32, x0, x1, x2, x3, (IntKind.i64.wrap (x4 + v33)), x5, rfl, E.keeps [(2, _), (3, _), (6, _), (7, _), (8, _), (9, _), (10, _), (11, _), (44, _), (45, _)] ⟨rfl, rfl, rfl, rfl, rfl, rfl, rfl, rfl, rfl, rfl, trivial⟩, S, (by decide), (flS_on (x := x4) hfl hbit hr34 rfl), (fun x hx => by simp only [List.mem_cons, List.not_mem_nil, or_false] at hx; rcases hx with rfl | rfl | rfl | rfl | rfl | rfl <;> first | exact inr_wrap _ | exact hxr _ (by simp))⟩
      · skip
        refine Run.eqi rfl E rfl rfl rfl rfl (decide_eq_false (by omega)) ?_; clear E a; intro a E
        refine Run.nil ?_
        refine then_n ?_
        refine cond_F E rfl ?_
        refine wp_skip ?_
        refine blk_n ?_
        refine then_n ?_
        refine region_plain (n := 2) [(0, .p), (1, .p)] rfl rfl ?_
        refine Run.add rfl E rfl rfl rfl rfl (i64_ok (by omega)) ?_; clear E a; intro a E
        refine Run.move rfl E rfl rfl rfl ?_; clear E a; intro a E
        refine Run.nil ?_
        refine then_n ?_
        replace E := E.setv 45 rfl (show Value.int .i64 (((4 : Nat) : Int) + 1) = .int .i64 ((4 + 1 : Nat) : Int) from rfl)
        exact ⟨_, (by decide), (4 + 1), p, q, x0, x1, x2, x3, x4, x5, rfl, E.keeps [(2, _), (3, _), (6, _), (7, _), (8, _), (9, _), (10, _), (11, _), (44, _), (45, _)] ⟨rfl, rfl, rfl, rfl, rfl, rfl, rfl, rfl, rfl, rfl, trivial⟩, S, (by decide), (flS_off hfl hbit), hxr⟩
    · skip
      refine Run.lss rfl E rfl rfl rfl rfl (decide_eq_true (by decide)) ?_; clear E a; intro a E
      refine Run.nil ?_
      refine then_n ?_
      refine wp_seq ?_
      refine cond_T E rfl ?_
      refine wp_skip ?_
      refine then_n ?_
      refine wp_seq ?_
      refine wp_block ?_
      refine wp_seq ?_
      refine region_plain (n := 4) [(0, .p), (1, .p), (2, .p), (3, .p)] rfl rfl ?_
      refine Run.move rfl E rfl rfl rfl ?_; clear E a; intro a E
      refine Run.indexA rfl E rfl rfl rfl rfl Try.underlying154 (by kernel_rfl) (by kernel_rfl) (by decide) rfl ?_; clear E a; intro a E
      refine Run.assign rfl E rfl rfl rfl ?_; clear E a; intro a E
      refine Run.assign rfl E rfl rfl rfl ?_; clear E a; intro a E
      refine Run.nil ?_
      refine then_n ?_
      refine wp_seq ?_
      refine region_plain (n := 5) [(0, .p), (1, .p), (2, .p), (3, .p), (4, .p)] rfl rfl ?_
      refine Run.move rfl E rfl rfl rfl ?_; clear E a; intro a E
      refine Run.move rfl E rfl rfl rfl ?_; clear E a; intro a E
      refine Run.shr (n := 5) rfl E rfl rfl rfl rfl (by kernel_rfl) (q := ((mk / 2 ^ 5 : Nat) : Int)) (fdiv_pow mk 5) ?_; clear E a; intro a E
      refine Run.and rfl E rfl rfl rfl rfl (q := ((mk / 2 ^ 5 % 2 : Nat) : Int)) (i64_and_mask (mk / 2 ^ 5) 1 (by omega) (by decide)) ?_; clear E a; intro a E
      by_cases hbit : mk / 2 ^ 5 % 2 = 1
      · skip
        refine Run.eqi rfl E rfl rfl rfl rfl (decide_eq_true (by omega)) ?_; clear E a; intro a E
        refine Run.nil ?_
        refine then_n ?_
        refine cond_T E rfl ?_
        refine region_plain (n := 8) [(0, .p), (1, .p), (2, .p), (3, .p), (4, .l), (5, .l), (6, .p), (7, .l)] rfl rfl ?_
        refine Run.move rfl E rfl rfl rfl ?_; clear E a; intro a E
        refine Run.move rfl E rfl rfl rfl ?_; clear E a; intro a E
        refine Run.move rfl E rfl rfl rfl ?_; clear E a; intro a E
        refine Run.nilCheck rfl E rfl rfl rfl ?_; clear E a; intro a E
        refine Run.load1 rfl rfl E S rfl rfl rfl one3 (fun _ s => s.objCell 1 6 rfl rfl) ?_; clear E a; intro a E
        refine Run.call (args := [.pointer (some ⟨b3, 0, none⟩), .int .i64 x5]) rfl rfl E rfl rfl Try.func105 nm105 rfl rfl (more_walk (at_ := p) (e := q) (was := x5) (St.ownL (A := [.obj b3 152 [.slice A b.length c, .int .i64 p, .int .i64 (q : Int)]]) (R := [_, _, _, _]) S) (H1.bel S.belT) hb8 hl hArw (hxr _ (by simp))) ?_; rintro e_ w ⟨rfl, S_⟩; refine ⟨_, rfl, (fun h => by cases h), ?_⟩; clear E a; intro a E
        replace S : St _ _ _ [_, _, _, _, _] := St.call (A := [.obj b3 152 [.slice A b.length c, .int .i64 p, .int .i64 (q : Int)]]) (R := [_, _, _, _]) S S_; clear S_
        obtain ⟨a35, e36, v37, hr38⟩ : ∃ (x : Int) (y : Nat) (z : Int), morR b p q = (x, y, z) := ⟨_, _, _, rfl⟩
        rw [hr38] at E S
        dsimp only at E S
        replace S : St _ _ _ [.obj b3 152 [.slice A b.length c, .int .i64 a35, .int .i64 (e36 : Int)], .obj b6 34 [.int .i64 v9, .int .i64 x0, .int .i64 x1, .int .i64 x2, .int .i64 x3, .int .i64 x4, .int .i64 x5, .slice B4 s.caps.length d5], .row (.slice B4 s.caps.length d5) 3 1 s.caps.length (ints s.caps), .obj b2 34 [.int .i64 0, .int .i64 0, .int .i64 0, .int .i64 0, .int .i64 0, .int .i64 0, .int .i64 0, .slice none 0 0], .obj b1 34 [.int .i64 s.kind, .int .i64 s.node, .int .i64 s.phase, .int .i64 s.pos, .int .i64 s.start, .int .i64 s.depth, .int .i64 s.org, .slice C s.caps.length d]] := S
        refine Run.nilCheck rfl E rfl rfl rfl ?_; clear E a; intro a E
        refine Run.store (news := [.int .i64 (IntKind.i64.wrap (x5 + v37))]) (cs' := [_, _, _, _, _, _, _, _]) (hp' := [_, _, _, _, _]) 1 rfl E S rfl rfl rfl rfl rfl sz3 rfl rfl rfl rfl ?_; clear S; intro w S
        refine Run.nil ?_
        refine blk_n ?_
        refine then_n ?_
        refine region_plain (n := 2) [(0, .p), (1, .p)] rfl rfl ?_
        refine Run.add rfl E rfl rfl rfl rfl (i64_ok (by omega)) ?_; clear E a; intro a E
        refine Run.move rfl E rfl rfl rfl ?_; clear E a; intro a E
        refine Run.nil ?_
        refine then_n ?_
        replace E := E.setv 45 rfl (show Value.int .i64 (((5 : Nat) : Int) + 1) = .int .i64 ((5 + 1 : Nat) : Int) from rfl)
        exact ⟨_, (by decide), (5 + 1), a35, e36, x0, x1, x2, x3, x4, (IntKind.i64.wrap (x5 + v37)), rfl, E.keeps [(2, _), (3, _), (6, _), (7, _), (8, _), (9, _), (10, _), (11, _), (44, _), (45, _)] ⟨rfl, rfl, rfl, rfl, rfl, rfl, rfl, rfl, rfl, rfl, trivial⟩, S, (by decide), (flS_on (x := x5) hfl hbit hr38 rfl), (fun x hx => by simp only [List.mem_cons, List.not_mem_nil, or_false] at hx; rcases hx with rfl | rfl | rfl | rfl | rfl | rfl <;> first | exact inr_wrap _ | exact hxr _ (by simp))⟩
      · skip
        refine Run.eqi rfl E rfl rfl rfl rfl (decide_eq_false (by omega)) ?_; clear E a; intro a E
        refine Run.nil ?_
        refine then_n ?_
        refine cond_F E rfl ?_
        refine wp_skip ?_
        refine blk_n ?_
        refine then_n ?_
        refine region_plain (n := 2) [(0, .p), (1, .p)] rfl rfl ?_
        refine Run.add rfl E rfl rfl rfl rfl (i64_ok (by omega)) ?_; clear E a; intro a E
        refine Run.move rfl E rfl rfl rfl ?_; clear E a; intro a E
        refine Run.nil ?_
        refine then_n ?_
        replace E := E.setv 45 rfl (show Value.int .i64 (((5 : Nat) : Int) + 1) = .int .i64 ((5 + 1 : Nat) : Int) from rfl)
        exact ⟨_, (by decide), (5 + 1), p, q, x0, x1, x2, x3, x4, x5, rfl, E.keeps [(2, _), (3, _), (6, _), (7, _), (8, _), (9, _), (10, _), (11, _), (44, _), (45, _)] ⟨rfl, rfl, rfl, rfl, rfl, rfl, rfl, rfl, rfl, rfl, trivial⟩, S, (by decide), (flS_off hfl hbit), hxr⟩
  · skip
    obtain rfl : i = 6 := by omega
    refine Run.lss rfl E rfl rfl rfl rfl (decide_eq_false (by decide)) ?_; clear E a; intro a E
    refine Run.nil ?_
    refine then_n ?_
    refine wp_seq ?_
    refine cond_F E rfl ?_
    refine wp_exit ?_
    refine then_x ?_
    refine then_x ?_
    refine blk_x ?_
    refine then_n ?_
    refine wp_seq ?_
    refine wp_seq ?_
    refine region_plain (n := 3) [(0, .p), (1, .p), (2, .p)] rfl rfl ?_
    refine Run.move rfl E rfl rfl rfl ?_; clear E a; intro a E
    refine Run.and rfl E rfl rfl rfl rfl (q := (((if mk < 64 then 0 else 64 : Nat)) : Int)) (i64_and_64 mk hmk7) ?_; clear E a; intro a E
    by_cases h64 : mk < 64
    · skip
      refine Run.nei rfl E rfl rfl rfl rfl (decide_eq_false (fun h => h (by rw [if_pos h64]; rfl))) ?_; clear E a; intro a E
      refine Run.nil ?_
      refine then_n ?_
      refine cond_F E rfl ?_
      refine wp_skip ?_
      refine then_n ?_
      refine wp_seq ?_
      refine wp_seq ?_
      refine region_drawS (n := 12) [(0, .p), (1, .p), (2, .p), (3, .t), (4, .p), (5, .p), (6, .t), (7, .t), (8, .e), (9, .e), (10, .p), (11, .p)] [0, 1, 3, 7, 15, 31, 63, 63, 191, 511, 1023, 2047] S mixed rfl rfl (by kernel_rfl) (fun _ _ _ _ _ h => h) ?_; clear S; intro w S B_; clear B_
      refine Run.move rfl E rfl rfl rfl ?_; clear E a; intro a E
      refine Run.nilCheck rfl E rfl rfl rfl ?_; clear E a; intro a E
      refine Run.fieldAddr rfl E rfl rfl rfl fo152_2 (rfl) ?_; clear E a; intro a E
      refine Run.load1 rfl rfl E S rfl rfl rfl one25 (fun _ s => s.objCell 0 2 rfl rfl) ?_; clear E a; intro a E
      obtain ⟨T, hTd⟩ : ∃ T : Sta, T = ⟨v9, x0, x1, x2, x3, x4, x5, s.caps⟩ := ⟨_, rfl⟩
      have hrd : rdF s b at_ = (p, q, T) := by rw [hTd]; exact rdF_of hr10 hr14 hfl (by rw [if_pos h64])
      by_cases he0 : q = 0
      · skip
        refine Run.eqi rfl E rfl rfl rfl rfl (decide_eq_true (by omega)) ?_; clear E a; intro a E
        refine Run.move rfl E rfl rfl rfl ?_; clear E a; intro a E
        refine Run.loadN (cs := [.int .i64 v9, .int .i64 x0, .int .i64 x1, .int .i64 x2, .int .i64 x3, .int .i64 x4, .int .i64 x5, .slice B4 s.caps.length d5]) rfl rfl E S rfl rfl rfl ag34 rfl (fun _ s => objAll s 1 rfl) ?_; clear E a; intro a E
        refine Run.loadN (cs := [.int .i64 s.kind, .int .i64 s.node, .int .i64 s.phase, .int .i64 s.pos, .int .i64 s.start, .int .i64 s.depth, .int .i64 s.org, .slice C s.caps.length d]) rfl rfl E S rfl rfl rfl ag34 rfl (fun _ s => objAll s 4 rfl) ?_; clear E a; intro a E
        refine Run.call (args := [.agg #[.int .i64 s.kind, .int .i64 s.node, .int .i64 s.phase, .int .i64 s.pos, .int .i64 s.start, .int .i64 s.depth, .int .i64 s.org, .slice C s.caps.length d]]) rfl rfl E rfl rfl Try.func96 nm96 rfl rfl (groups_walk (s := s) hs) ?_; rintro e_ w ⟨rfl, B_⟩; refine ⟨_, rfl, fun _ => B_, ?_⟩; clear E a; replace S := S.bel B_; intro a E
        clear B_
        have hTl : T.caps.length = s.caps.length := by rw [hTd]
        have hrw := right_lit (g := s.groups) (A := B4) (c := d5) hTd (by rw [hTl, hTd]; exact S.rd 2 rfl) (by omega)
        rw [hTl] at hrw
        refine Run.call (args := [.agg #[.int .i64 v9, .int .i64 x0, .int .i64 x1, .int .i64 x2, .int .i64 x3, .int .i64 x4, .int .i64 x5, .slice B4 s.caps.length d5], .int .i64 s.groups]) rfl rfl E rfl rfl Try.func26 nm26 rfl rfl hrw ?_; rintro e_ w ⟨rfl, B_⟩; refine ⟨_, rfl, fun _ => B_, ?_⟩; clear E a; replace S := S.bel B_; intro a E; clear B_
        by_cases hR : T.Right s.groups
        · skip
          replace E := E.setb 78 rfl (decide_eq_true hR)
          refine Run.not rfl E rfl rfl rfl rfl ?_; clear E a; intro a E
          refine Run.pickT rfl E rfl rfl rfl rfl ?_; clear E a; intro a E
          refine Run.nil ?_
          refine then_n ?_
          refine cond_F E rfl ?_
          refine wp_skip ?_
          refine then_n ?_
          refine wp_seq ?_
          refine wp_seq ?_
          refine region_plain (n := 5) [(0, .p), (1, .p), (2, .p), (3, .l), (4, .p)] rfl rfl ?_
          refine Run.move rfl E rfl rfl rfl ?_; clear E a; intro a E
          refine Run.nilCheck rfl E rfl rfl rfl ?_; clear E a; intro a E
          refine Run.fieldAddr rfl E rfl rfl rfl fo152_2 (rfl) ?_; clear E a; intro a E
          refine Run.load1 rfl rfl E S rfl rfl rfl one25 (fun _ s => s.objCell 0 2 rfl rfl) ?_; clear E a; intro a E
          refine Run.nei rfl E rfl rfl rfl rfl (decide_eq_false (by omega)) ?_; clear E a; intro a E
          refine Run.nil ?_
          refine then_n ?_
          refine cond_F E rfl ?_
          refine wp_skip ?_
          refine then_n ?_
          refine wp_seq ?_
          refine region_tree (n := 10) (.one 1 .p (.one 2 .p (.one 3 .p (.one 5 .p (.one 0 .t (.alt 4 (.one 6 .p (.one 7 .l (.one 8 .p (.one 9 .p .done)))) (.altl 7 (.one 4 .t (.one 6 .p (.one 8 .p (.one 9 .p .done)))) .none))))))) [0, 0, 2, 6, 14, 0, 62, 1, 255, 511] S mixed rfl rfl (by kernel_rfl) (fun _ _ _ _ _ h => h) ?_; clear S; intro w S B_; clear B_
          refine RunT.one ?_
          refine Run.move rfl E rfl rfl rfl ?_; clear E a; intro a E
          refine RunT.end ?_
          refine RunT.one ?_
          refine Run.nilCheck rfl E rfl rfl rfl ?_; clear E a; intro a E
          refine RunT.end ?_
          refine RunT.one ?_
          refine Run.fieldAddr rfl E rfl rfl rfl fo152_1 (rfl) ?_; clear E a; intro a E
          refine RunT.end ?_
          refine RunT.one ?_
          refine Run.move rfl E rfl rfl rfl ?_; clear E a; intro a E
          refine RunT.end ?_
          refine RunT.one ?_
          refine Run.loadN (cs := [.int .i64 v9, .int .i64 x0, .int .i64 x1, .int .i64 x2, .int .i64 x3, .int .i64 x4, .int .i64 x5, .slice B4 s.caps.length d5]) rfl rfl E S rfl rfl rfl ag34 rfl (fun _ s => objAll s 1 rfl) ?_; clear E a; intro a E
          refine RunT.end ?_
          refine RunT.alt ?_ ?_
          · skip
            refine Run.load1 rfl rfl E S rfl rfl rfl one3 (fun _ s => s.objCell 0 1 rfl rfl) ?_; clear E a; intro a E
            refine RunT.end ?_
            refine RunT.one ?_
            refine Run.sub rfl E rfl rfl rfl rfl rfl ?_; clear E a; intro a E
            refine RunT.end ?_
            refine RunT.one ?_
            refine Run.store (news := [.int .i64 v9, .int .i64 x0, .int .i64 x1, .int .i64 x2, .int .i64 x3, .int .i64 x4, .int .i64 x5, .slice B4 s.caps.length d5]) (cs' := [_, _, _, _, _, _, _, _]) (hp' := [_, _, _, _, _]) 3 rfl E S rfl rfl rfl rfl rfl sz34 rfl rfl rfl rfl ?_; clear S; intro w S
            refine RunT.end ?_
            refine RunT.one ?_
            refine Run.assign rfl E rfl rfl rfl ?_; clear E a; intro a E
            refine RunT.end ?_
            refine RunT.one ?_
            refine Run.assign rfl E rfl rfl rfl ?_; clear E a; intro a E
            refine RunT.end ?_
            refine RunT.done ?_
            refine then_n ?_
            refine wp_ret ?_
            refine retN E (vs := [.agg #[.int .i64 v9, .int .i64 x0, .int .i64 x1, .int .i64 x2, .int .i64 x3, .int .i64 x4, .int .i64 x5, .slice B4 s.caps.length d5], .int .i64 (IntKind.i64.wrap (p - at_)), .int .i64 0]) Try.results66 (.cell (E.slot _ _ rfl) (run_loadVarAgg ag34 rfl (objAll S 3 rfl)) (.tmp (E.slot _ _ rfl) (.tmp (E.slot _ _ rfl) .nil))) rfl (.inr ⟨by rw [hrd]; exact he0, by rw [hrd]; exact hR, B4, d5, ?_, ?_⟩)
            · rw [hrd]; dsimp only; rw [hTl, hTd]; rfl
            have S : St _ _ _ [_, _, _, _, _] := S.sel [0, 1, 3, 4, 2] _ rfl rfl
            have S := S.drop1.drop1.drop1.drop1
            · rw [hrd]; dsimp only; rw [hTl, hTd]; exact S
          · skip
            refine RunT.altl ?_ ?_
            · skip
              refine Run.store (news := [.int .i64 v9, .int .i64 x0, .int .i64 x1, .int .i64 x2, .int .i64 x3, .int .i64 x4, .int .i64 x5, .slice B4 s.caps.length d5]) (cs' := [_, _, _, _, _, _, _, _]) (hp' := [_, _, _, _, _]) 3 rfl E S rfl rfl rfl rfl rfl sz34 rfl rfl rfl rfl ?_; clear S; intro w S
              refine RunT.end ?_
              refine RunT.one ?_
              refine Run.load1 rfl rfl E S rfl rfl rfl one3 (fun _ s => s.objCell 0 1 rfl rfl) ?_; clear E a; intro a E
              refine RunT.end ?_
              refine RunT.one ?_
              refine Run.sub rfl E rfl rfl rfl rfl rfl ?_; clear E a; intro a E
              refine RunT.end ?_
              refine RunT.one ?_
              refine Run.assign rfl E rfl rfl rfl ?_; clear E a; intro a E
              refine RunT.end ?_
              refine RunT.one ?_
              refine Run.assign rfl E rfl rfl rfl ?_; clear E a; intro a E
              refine RunT.end ?_
              refine RunT.done ?_
              refine then_n ?_
              refine wp_ret ?_
              refine retN E (vs := [.agg #[.int .i64 v9, .int .i64 x0, .int .i64 x1, .int .i64 x2, .int .i64 x3, .int .i64 x4, .int .i64 x5, .slice B4 s.caps.length d5], .int .i64 (IntKind.i64.wrap (p - at_)), .int .i64 0]) Try.results66 (.cell (E.slot _ _ rfl) (run_loadVarAgg ag34 rfl (objAll S 3 rfl)) (.tmp (E.slot _ _ rfl) (.tmp (E.slot _ _ rfl) .nil))) rfl (.inr ⟨by rw [hrd]; exact he0, by rw [hrd]; exact hR, B4, d5, ?_, ?_⟩)
              · rw [hrd]; dsimp only; rw [hTl, hTd]; rfl
              have S : St _ _ _ [_, _, _, _, _] := S.sel [0, 1, 3, 4, 2] _ rfl rfl
              have S := S.drop1.drop1.drop1.drop1
              · rw [hrd]; dsimp only; rw [hTl, hTd]; exact S
            · skip
              exact RunT.none
        · skip
          replace E := E.setb 78 rfl (decide_eq_false hR)
          refine Run.not rfl E rfl rfl rfl rfl ?_; clear E a; intro a E
          refine Run.pickT rfl E rfl rfl rfl rfl ?_; clear E a; intro a E
          refine Run.nil ?_
          refine then_n ?_
          refine cond_T E rfl ?_
          refine region_plain (n := 4) [(0, .p), (1, .p), (2, .p), (3, .l)] rfl rfl ?_
          refine Run.move rfl E rfl rfl rfl ?_; clear E a; intro a E
          refine Run.nilCheck rfl E rfl rfl rfl ?_; clear E a; intro a E
          refine Run.fieldAddr rfl E rfl rfl rfl fo152_2 (rfl) ?_; clear E a; intro a E
          refine Run.store (news := [.int .i64 11]) (cs' := [_, _, _]) (hp' := [_, _, _, _, _]) 0 rfl E S rfl rfl rfl rfl rfl sz25 rfl rfl rfl rfl ?_; clear S; intro w S
          refine Run.nil ?_
          refine then_n ?_
          refine wp_seq ?_
          refine wp_seq ?_
          refine region_plain (n := 5) [(0, .p), (1, .p), (2, .p), (3, .l), (4, .p)] rfl rfl ?_
          refine Run.move rfl E rfl rfl rfl ?_; clear E a; intro a E
          refine Run.nilCheck rfl E rfl rfl rfl ?_; clear E a; intro a E
          refine Run.fieldAddr rfl E rfl rfl rfl fo152_2 (rfl) ?_; clear E a; intro a E
          refine Run.load1 rfl rfl E S rfl rfl rfl one25 (fun _ s => s.objCell 0 2 rfl rfl) ?_; clear E a; intro a E
          refine Run.nei rfl E rfl rfl rfl rfl (b := true) (by decide) ?_; clear E a; intro a E
          refine Run.nil ?_
          refine then_n ?_
          refine cond_T E rfl ?_
          refine wp_seq ?_
          refine region_tree (n := 8) (.one 0 .p (.one 1 .p (.one 2 .p (.one 3 .p (.alt 4 (.one 5 .l (.one 6 .p (.one 7 .p .done))) (.altl 5 (.one 6 .p (.one 4 .t (.one 7 .p .done))) .none)))))) [0, 0, 2, 6, 14, 1, 33, 127] S mixed rfl rfl (by kernel_rfl) (fun _ _ _ _ _ h => h) ?_; clear S; intro w S B_; clear B_
          refine RunT.one ?_
          refine Run.build (cs := #[.int .i64 0, .int .i64 0, .int .i64 0, .int .i64 0, .int .i64 0, .int .i64 0, .int .i64 0, .slice none 0 0]) [] rfl E rfl rfl rfl (by kernel_rfl) ?_; clear E a; intro a E
          refine RunT.end ?_
          refine RunT.one ?_
          refine Run.move rfl E rfl rfl rfl ?_; clear E a; intro a E
          refine RunT.end ?_
          refine RunT.one ?_
          refine Run.nilCheck rfl E rfl rfl rfl ?_; clear E a; intro a E
          refine RunT.end ?_
          refine RunT.one ?_
          refine Run.fieldAddr rfl E rfl rfl rfl fo152_2 (rfl) ?_; clear E a; intro a E
          refine RunT.end ?_
          refine RunT.alt ?_ ?_
          · skip
            refine Run.load1 rfl rfl E S rfl rfl rfl one25 (fun _ s => s.objCell 0 2 rfl rfl) ?_; clear E a; intro a E
            refine RunT.end ?_
            refine RunT.one ?_
            refine Run.store (news := [.int .i64 0, .int .i64 0, .int .i64 0, .int .i64 0, .int .i64 0, .int .i64 0, .int .i64 0, .slice none 0 0]) (cs' := [_, _, _, _, _, _, _, _]) (hp' := [_, _, _, _, _]) 3 rfl E S rfl rfl rfl rfl rfl sz34 rfl rfl rfl rfl ?_; clear S; intro w S
            refine RunT.end ?_
            refine RunT.one ?_
            refine Run.assign rfl E rfl rfl rfl ?_; clear E a; intro a E
            refine RunT.end ?_
            refine RunT.one ?_
            refine Run.assign rfl E rfl rfl rfl ?_; clear E a; intro a E
            refine RunT.end ?_
            refine RunT.done ?_
            refine then_n ?_
            refine wp_ret ?_
            refine then_r ?_
            exact retN E (vs := [.agg #[.int .i64 0, .int .i64 0, .int .i64 0, .int .i64 0, .int .i64 0, .int .i64 0, .int .i64 0, .slice none 0 0], .int .i64 0, .int .i64 11]) Try.results66 (.cell (E.slot _ _ rfl) (run_loadVarAgg ag34 rfl (objAll S 3 rfl)) (.tmp (E.slot _ _ rfl) (.tmp (E.slot _ _ rfl) .nil))) rfl (.inl ⟨11, .inr ⟨by rw [hrd]; exact he0, by rw [hrd]; exact hR, rfl⟩, rfl, S.belT⟩)
          · skip
            refine RunT.altl ?_ ?_
            · skip
              refine Run.store (news := [.int .i64 0, .int .i64 0, .int .i64 0, .int .i64 0, .int .i64 0, .int .i64 0, .int .i64 0, .slice none 0 0]) (cs' := [_, _, _, _, _, _, _, _]) (hp' := [_, _, _, _, _]) 3 rfl E S rfl rfl rfl rfl rfl sz34 rfl rfl rfl rfl ?_; clear S; intro w S
              refine RunT.end ?_
              refine RunT.one ?_
              refine Run.assign rfl E rfl rfl rfl ?_; clear E a; intro a E
              refine RunT.end ?_
              refine RunT.one ?_
              refine Run.load1 rfl rfl E S rfl rfl rfl one25 (fun _ s => s.objCell 0 2 rfl rfl) ?_; clear E a; intro a E
              refine RunT.end ?_
              refine RunT.one ?_
              refine Run.assign rfl E rfl rfl rfl ?_; clear E a; intro a E
              refine RunT.end ?_
              refine RunT.done ?_
              refine then_n ?_
              refine wp_ret ?_
              refine then_r ?_
              exact retN E (vs := [.agg #[.int .i64 0, .int .i64 0, .int .i64 0, .int .i64 0, .int .i64 0, .int .i64 0, .int .i64 0, .slice none 0 0], .int .i64 0, .int .i64 11]) Try.results66 (.cell (E.slot _ _ rfl) (run_loadVarAgg ag34 rfl (objAll S 3 rfl)) (.tmp (E.slot _ _ rfl) (.tmp (E.slot _ _ rfl) .nil))) rfl (.inl ⟨11, .inr ⟨by rw [hrd]; exact he0, by rw [hrd]; exact hR, rfl⟩, rfl, S.belT⟩)
            · skip
              exact RunT.none
      · skip
        refine Run.eqi rfl E rfl rfl rfl rfl (decide_eq_false (by omega)) ?_; clear E a; intro a E
        refine Run.move rfl E rfl rfl rfl ?_; clear E a; intro a E
        refine Run.off rfl E rfl rfl ?_; clear E a; intro a E
        refine Run.off rfl E rfl rfl ?_; clear E a; intro a E
        refine Run.off rfl E rfl rfl ?_; clear E a; intro a E
        refine Run.off rfl E rfl rfl ?_; clear E a; intro a E
        refine Run.off rfl E rfl rfl ?_; clear E a; intro a E
        refine Run.pickF rfl E rfl rfl rfl rfl ?_; clear E a; intro a E
        refine Run.nil ?_
        refine then_n ?_
        refine cond_F E rfl ?_
        refine wp_skip ?_
        refine then_n ?_
        refine wp_seq ?_
        refine wp_seq ?_
        refine region_plain (n := 5) [(0, .p), (1, .p), (2, .p), (3, .l), (4, .p)] rfl rfl ?_
        refine Run.move rfl E rfl rfl rfl ?_; clear E a; intro a E
        refine Run.nilCheck rfl E rfl rfl rfl ?_; clear E a; intro a E
        refine Run.fieldAddr rfl E rfl rfl rfl fo152_2 (rfl) ?_; clear E a; intro a E
        refine Run.load1 rfl rfl E S rfl rfl rfl one25 (fun _ s => s.objCell 0 2 rfl rfl) ?_; clear E a; intro a E
        refine Run.nei rfl E rfl rfl rfl rfl (decide_eq_true (by omega)) ?_; clear E a; intro a E
        refine Run.nil ?_
        refine then_n ?_
        refine cond_T E rfl ?_
        refine wp_seq ?_
        refine region_tree (n := 8) (.one 0 .p (.one 1 .p (.one 2 .p (.one 3 .p (.alt 4 (.one 5 .l (.one 6 .p (.one 7 .p .done))) (.altl 5 (.one 6 .p (.one 4 .t (.one 7 .p .done))) .none)))))) [0, 0, 2, 6, 14, 1, 33, 127] S mixed rfl rfl (by kernel_rfl) (fun _ _ _ _ _ h => h) ?_; clear S; intro w S B_; clear B_
        refine RunT.one ?_
        refine Run.build (cs := #[.int .i64 0, .int .i64 0, .int .i64 0, .int .i64 0, .int .i64 0, .int .i64 0, .int .i64 0, .slice none 0 0]) [] rfl E rfl rfl rfl (by kernel_rfl) ?_; clear E a; intro a E
        refine RunT.end ?_
        refine RunT.one ?_
        refine Run.move rfl E rfl rfl rfl ?_; clear E a; intro a E
        refine RunT.end ?_
        refine RunT.one ?_
        refine Run.nilCheck rfl E rfl rfl rfl ?_; clear E a; intro a E
        refine RunT.end ?_
        refine RunT.one ?_
        refine Run.fieldAddr rfl E rfl rfl rfl fo152_2 (rfl) ?_; clear E a; intro a E
        refine RunT.end ?_
        refine RunT.alt ?_ ?_
        · skip
          refine Run.load1 rfl rfl E S rfl rfl rfl one25 (fun _ s => s.objCell 0 2 rfl rfl) ?_; clear E a; intro a E
          refine RunT.end ?_
          refine RunT.one ?_
          refine Run.store (news := [.int .i64 0, .int .i64 0, .int .i64 0, .int .i64 0, .int .i64 0, .int .i64 0, .int .i64 0, .slice none 0 0]) (cs' := [_, _, _, _, _, _, _, _]) (hp' := [_, _, _, _, _]) 3 rfl E S rfl rfl rfl rfl rfl sz34 rfl rfl rfl rfl ?_; clear S; intro w S
          refine RunT.end ?_
          refine RunT.one ?_
          refine Run.assign rfl E rfl rfl rfl ?_; clear E a; intro a E
          refine RunT.end ?_
          refine RunT.one ?_
          refine Run.assign rfl E rfl rfl rfl ?_; clear E a; intro a E
          refine RunT.end ?_
          refine RunT.done ?_
          refine then_n ?_
          refine wp_ret ?_
          refine then_r ?_
          exact retN E (vs := [.agg #[.int .i64 0, .int .i64 0, .int .i64 0, .int .i64 0, .int .i64 0, .int .i64 0, .int .i64 0, .slice none 0 0], .int .i64 0, .int .i64 (q : Int)]) Try.results66 (.cell (E.slot _ _ rfl) (run_loadVarAgg ag34 rfl (objAll S 3 rfl)) (.tmp (E.slot _ _ rfl) (.tmp (E.slot _ _ rfl) .nil))) rfl (.inl ⟨q, .inl ⟨by rw [hrd], he0⟩, rfl, S.belT⟩)
        · skip
          refine RunT.altl ?_ ?_
          · skip
            refine Run.store (news := [.int .i64 0, .int .i64 0, .int .i64 0, .int .i64 0, .int .i64 0, .int .i64 0, .int .i64 0, .slice none 0 0]) (cs' := [_, _, _, _, _, _, _, _]) (hp' := [_, _, _, _, _]) 3 rfl E S rfl rfl rfl rfl rfl sz34 rfl rfl rfl rfl ?_; clear S; intro w S
            refine RunT.end ?_
            refine RunT.one ?_
            refine Run.assign rfl E rfl rfl rfl ?_; clear E a; intro a E
            refine RunT.end ?_
            refine RunT.one ?_
            refine Run.load1 rfl rfl E S rfl rfl rfl one25 (fun _ s => s.objCell 0 2 rfl rfl) ?_; clear E a; intro a E
            refine RunT.end ?_
            refine RunT.one ?_
            refine Run.assign rfl E rfl rfl rfl ?_; clear E a; intro a E
            refine RunT.end ?_
            refine RunT.done ?_
            refine then_n ?_
            refine wp_ret ?_
            refine then_r ?_
            exact retN E (vs := [.agg #[.int .i64 0, .int .i64 0, .int .i64 0, .int .i64 0, .int .i64 0, .int .i64 0, .int .i64 0, .slice none 0 0], .int .i64 0, .int .i64 (q : Int)]) Try.results66 (.cell (E.slot _ _ rfl) (run_loadVarAgg ag34 rfl (objAll S 3 rfl)) (.tmp (E.slot _ _ rfl) (.tmp (E.slot _ _ rfl) .nil))) rfl (.inl ⟨q, .inl ⟨by rw [hrd], he0⟩, rfl, S.belT⟩)
          · skip
            exact RunT.none
    · skip
      refine Run.nei rfl E rfl rfl rfl rfl (decide_eq_true (by rw [if_neg h64]; decide)) ?_; clear E a; intro a E
      refine Run.nil ?_
      refine then_n ?_
      refine cond_T E rfl ?_
      refine region_plain (n := 4) [(0, .p), (1, .p), (2, .l), (3, .l)] rfl rfl ?_
      refine Run.move rfl E rfl rfl rfl ?_; clear E a; intro a E
      refine Run.fieldAddr rfl E rfl rfl rfl fo34_7 (rfl) ?_; clear E a; intro a E
      refine Run.load1 rfl rfl E S rfl rfl rfl one32 (fun _ s => s.objCell 1 7 rfl rfl) ?_; clear E a; intro a E
      replace S : St _ _ _ [_, _, _, _, _] := S.sel [0, 2, 1, 3, 4] _ rfl rfl
      have hApl : 0 < b.length → ∀ b_ o, A = some ⟨b_, o, none⟩ → b_ ∉ fps [.obj b3 152 [.slice A b.length c, .int .i64 p, .int .i64 (q : Int)], .row (.slice B4 s.caps.length d5) 3 1 s.caps.length (ints s.caps)] := fun h b_ o e hm => by have h1 := H1.lt h (by decide) e; have h2 := (S.fresh b_ (by simp only [fps, List.flatMap_cons, List.flatMap_nil, List.append_nil, List.mem_append] at hm ⊢; rcases hm with hm | hm; exact .inl hm; exact .inr (.inl hm))).resolve_left (by simp); omega
      obtain ⟨a8, e8, l8, h8⟩ : ∃ (x : Int) (y : Nat) (z : List Int), plR b p q s.caps = (x, y, z) := ⟨_, _, _, rfl⟩
      have hpw := places_walk (at_ := p) (e := q) (l := s.caps) (St.ownL (A := [.obj b3 152 [.slice A b.length c, .int .i64 p, .int .i64 (q : Int)], .row (.slice B4 s.caps.length d5) 3 1 s.caps.length (ints s.caps)]) (R := [_, _, _]) S) (H1.bel S.belT) hb8 hl hApl (by omega) (fun x hx => inr_small (hsc x hx))
      rw [h8] at hpw; dsimp only at hpw
      refine Run.call (args := [.pointer (some ⟨b3, 0, none⟩), .slice B4 s.caps.length d5]) rfl rfl E rfl rfl Try.func106 nm106 rfl rfl hpw ?_; rintro e_ w ⟨rfl, S_⟩; refine ⟨_, rfl, (fun h => by cases h), ?_⟩; clear E a; intro a E
      replace S : St _ _ _ [_, _, _, _, _] := St.call (A := [.obj b3 152 [.slice A b.length c, .int .i64 p, .int .i64 (q : Int)], .row (.slice B4 s.caps.length d5) 3 1 s.caps.length (ints s.caps)]) (R := [_, _, _]) S S_; clear S_
      replace S : St _ _ _ [.obj b3 152 [.slice A b.length c, .int .i64 a8, .int .i64 (e8 : Int)], .row (.slice B4 s.caps.length d5) 3 1 s.caps.length (ints l8), .obj b6 34 [.int .i64 v9, .int .i64 x0, .int .i64 x1, .int .i64 x2, .int .i64 x3, .int .i64 x4, .int .i64 x5, .slice B4 s.caps.length d5], .obj b2 34 [.int .i64 0, .int .i64 0, .int .i64 0, .int .i64 0, .int .i64 0, .int .i64 0, .int .i64 0, .slice none 0 0], .obj b1 34 [.int .i64 s.kind, .int .i64 s.node, .int .i64 s.phase, .int .i64 s.pos, .int .i64 s.start, .int .i64 s.depth, .int .i64 s.org, .slice C s.caps.length d]] := S
      refine Run.nil ?_
      refine then_n ?_
      refine wp_seq ?_
      refine wp_seq ?_
      refine region_drawS (n := 12) [(0, .p), (1, .p), (2, .p), (3, .t), (4, .p), (5, .p), (6, .t), (7, .t), (8, .e), (9, .e), (10, .p), (11, .p)] [0, 1, 3, 7, 15, 31, 63, 63, 191, 511, 1023, 2047] S mixed rfl rfl (by kernel_rfl) (fun _ _ _ _ _ h => h) ?_; clear S; intro w S B_; clear B_
      refine Run.move rfl E rfl rfl rfl ?_; clear E a; intro a E
      refine Run.nilCheck rfl E rfl rfl rfl ?_; clear E a; intro a E
      refine Run.fieldAddr rfl E rfl rfl rfl fo152_2 (rfl) ?_; clear E a; intro a E
      refine Run.load1 rfl rfl E S rfl rfl rfl one25 (fun _ s => s.objCell 0 2 rfl rfl) ?_; clear E a; intro a E
      obtain ⟨T, hTd⟩ : ∃ T : Sta, T = ⟨v9, x0, x1, x2, x3, x4, x5, l8⟩ := ⟨_, rfl⟩
      have hrd : rdF s b at_ = (a8, e8, T) := by rw [hTd]; exact rdF_of hr10 hr14 hfl (by rw [if_neg h64, h8])
      by_cases he0 : e8 = 0
      · skip
        refine Run.eqi rfl E rfl rfl rfl rfl (decide_eq_true (by omega)) ?_; clear E a; intro a E
        refine Run.move rfl E rfl rfl rfl ?_; clear E a; intro a E
        refine Run.loadN (cs := [.int .i64 v9, .int .i64 x0, .int .i64 x1, .int .i64 x2, .int .i64 x3, .int .i64 x4, .int .i64 x5, .slice B4 s.caps.length d5]) rfl rfl E S rfl rfl rfl ag34 rfl (fun _ s => objAll s 2 rfl) ?_; clear E a; intro a E
        refine Run.loadN (cs := [.int .i64 s.kind, .int .i64 s.node, .int .i64 s.phase, .int .i64 s.pos, .int .i64 s.start, .int .i64 s.depth, .int .i64 s.org, .slice C s.caps.length d]) rfl rfl E S rfl rfl rfl ag34 rfl (fun _ s => objAll s 4 rfl) ?_; clear E a; intro a E
        refine Run.call (args := [.agg #[.int .i64 s.kind, .int .i64 s.node, .int .i64 s.phase, .int .i64 s.pos, .int .i64 s.start, .int .i64 s.depth, .int .i64 s.org, .slice C s.caps.length d]]) rfl rfl E rfl rfl Try.func96 nm96 rfl rfl (groups_walk (s := s) hs) ?_; rintro e_ w ⟨rfl, B_⟩; refine ⟨_, rfl, fun _ => B_, ?_⟩; clear E a; replace S := S.bel B_; intro a E
        clear B_
        have hll8 : l8.length = s.caps.length := by have := (S.row 1 rfl).1; rw [ints_len] at this; omega
        have hTl : T.caps.length = s.caps.length := by rw [hTd]; exact hll8
        have hrw := right_lit (g := s.groups) (A := B4) (c := d5) hTd (by rw [hTl, hTd]; exact S.rd 1 rfl) (by omega)
        rw [hTl] at hrw
        refine Run.call (args := [.agg #[.int .i64 v9, .int .i64 x0, .int .i64 x1, .int .i64 x2, .int .i64 x3, .int .i64 x4, .int .i64 x5, .slice B4 s.caps.length d5], .int .i64 s.groups]) rfl rfl E rfl rfl Try.func26 nm26 rfl rfl hrw ?_; rintro e_ w ⟨rfl, B_⟩; refine ⟨_, rfl, fun _ => B_, ?_⟩; clear E a; replace S := S.bel B_; intro a E; clear B_
        by_cases hR : T.Right s.groups
        · skip
          replace E := E.setb 78 rfl (decide_eq_true hR)
          refine Run.not rfl E rfl rfl rfl rfl ?_; clear E a; intro a E
          refine Run.pickT rfl E rfl rfl rfl rfl ?_; clear E a; intro a E
          refine Run.nil ?_
          refine then_n ?_
          refine cond_F E rfl ?_
          refine wp_skip ?_
          refine then_n ?_
          refine wp_seq ?_
          refine wp_seq ?_
          refine region_plain (n := 5) [(0, .p), (1, .p), (2, .p), (3, .l), (4, .p)] rfl rfl ?_
          refine Run.move rfl E rfl rfl rfl ?_; clear E a; intro a E
          refine Run.nilCheck rfl E rfl rfl rfl ?_; clear E a; intro a E
          refine Run.fieldAddr rfl E rfl rfl rfl fo152_2 (rfl) ?_; clear E a; intro a E
          refine Run.load1 rfl rfl E S rfl rfl rfl one25 (fun _ s => s.objCell 0 2 rfl rfl) ?_; clear E a; intro a E
          refine Run.nei rfl E rfl rfl rfl rfl (decide_eq_false (by omega)) ?_; clear E a; intro a E
          refine Run.nil ?_
          refine then_n ?_
          refine cond_F E rfl ?_
          refine wp_skip ?_
          refine then_n ?_
          refine wp_seq ?_
          refine region_tree (n := 10) (.one 1 .p (.one 2 .p (.one 3 .p (.one 5 .p (.one 0 .t (.alt 4 (.one 6 .p (.one 7 .l (.one 8 .p (.one 9 .p .done)))) (.altl 7 (.one 4 .t (.one 6 .p (.one 8 .p (.one 9 .p .done)))) .none))))))) [0, 0, 2, 6, 14, 0, 62, 1, 255, 511] S mixed rfl rfl (by kernel_rfl) (fun _ _ _ _ _ h => h) ?_; clear S; intro w S B_; clear B_
          refine RunT.one ?_
          refine Run.move rfl E rfl rfl rfl ?_; clear E a; intro a E
          refine RunT.end ?_
          refine RunT.one ?_
          refine Run.nilCheck rfl E rfl rfl rfl ?_; clear E a; intro a E
          refine RunT.end ?_
          refine RunT.one ?_
          refine Run.fieldAddr rfl E rfl rfl rfl fo152_1 (rfl) ?_; clear E a; intro a E
          refine RunT.end ?_
          refine RunT.one ?_
          refine Run.move rfl E rfl rfl rfl ?_; clear E a; intro a E
          refine RunT.end ?_
          refine RunT.one ?_
          refine Run.loadN (cs := [.int .i64 v9, .int .i64 x0, .int .i64 x1, .int .i64 x2, .int .i64 x3, .int .i64 x4, .int .i64 x5, .slice B4 s.caps.length d5]) rfl rfl E S rfl rfl rfl ag34 rfl (fun _ s => objAll s 2 rfl) ?_; clear E a; intro a E
          refine RunT.end ?_
          refine RunT.alt ?_ ?_
          · skip
            refine Run.load1 rfl rfl E S rfl rfl rfl one3 (fun _ s => s.objCell 0 1 rfl rfl) ?_; clear E a; intro a E
            refine RunT.end ?_
            refine RunT.one ?_
            refine Run.sub rfl E rfl rfl rfl rfl rfl ?_; clear E a; intro a E
            refine RunT.end ?_
            refine RunT.one ?_
            refine Run.store (news := [.int .i64 v9, .int .i64 x0, .int .i64 x1, .int .i64 x2, .int .i64 x3, .int .i64 x4, .int .i64 x5, .slice B4 s.caps.length d5]) (cs' := [_, _, _, _, _, _, _, _]) (hp' := [_, _, _, _, _]) 3 rfl E S rfl rfl rfl rfl rfl sz34 rfl rfl rfl rfl ?_; clear S; intro w S
            refine RunT.end ?_
            refine RunT.one ?_
            refine Run.assign rfl E rfl rfl rfl ?_; clear E a; intro a E
            refine RunT.end ?_
            refine RunT.one ?_
            refine Run.assign rfl E rfl rfl rfl ?_; clear E a; intro a E
            refine RunT.end ?_
            refine RunT.done ?_
            refine then_n ?_
            refine wp_ret ?_
            refine retN E (vs := [.agg #[.int .i64 v9, .int .i64 x0, .int .i64 x1, .int .i64 x2, .int .i64 x3, .int .i64 x4, .int .i64 x5, .slice B4 s.caps.length d5], .int .i64 (IntKind.i64.wrap (a8 - at_)), .int .i64 0]) Try.results66 (.cell (E.slot _ _ rfl) (run_loadVarAgg ag34 rfl (objAll S 3 rfl)) (.tmp (E.slot _ _ rfl) (.tmp (E.slot _ _ rfl) .nil))) rfl (.inr ⟨by rw [hrd]; exact he0, by rw [hrd]; exact hR, B4, d5, ?_, ?_⟩)
            · rw [hrd]; dsimp only; rw [hTl, hTd]; rfl
            have S : St _ _ _ [_, _, _, _, _] := S.sel [0, 2, 3, 4, 1] _ rfl rfl
            have S := S.drop1.drop1.drop1.drop1
            · rw [hrd]; dsimp only; rw [hTl, hTd]; exact S
          · skip
            refine RunT.altl ?_ ?_
            · skip
              refine Run.store (news := [.int .i64 v9, .int .i64 x0, .int .i64 x1, .int .i64 x2, .int .i64 x3, .int .i64 x4, .int .i64 x5, .slice B4 s.caps.length d5]) (cs' := [_, _, _, _, _, _, _, _]) (hp' := [_, _, _, _, _]) 3 rfl E S rfl rfl rfl rfl rfl sz34 rfl rfl rfl rfl ?_; clear S; intro w S
              refine RunT.end ?_
              refine RunT.one ?_
              refine Run.load1 rfl rfl E S rfl rfl rfl one3 (fun _ s => s.objCell 0 1 rfl rfl) ?_; clear E a; intro a E
              refine RunT.end ?_
              refine RunT.one ?_
              refine Run.sub rfl E rfl rfl rfl rfl rfl ?_; clear E a; intro a E
              refine RunT.end ?_
              refine RunT.one ?_
              refine Run.assign rfl E rfl rfl rfl ?_; clear E a; intro a E
              refine RunT.end ?_
              refine RunT.one ?_
              refine Run.assign rfl E rfl rfl rfl ?_; clear E a; intro a E
              refine RunT.end ?_
              refine RunT.done ?_
              refine then_n ?_
              refine wp_ret ?_
              refine retN E (vs := [.agg #[.int .i64 v9, .int .i64 x0, .int .i64 x1, .int .i64 x2, .int .i64 x3, .int .i64 x4, .int .i64 x5, .slice B4 s.caps.length d5], .int .i64 (IntKind.i64.wrap (a8 - at_)), .int .i64 0]) Try.results66 (.cell (E.slot _ _ rfl) (run_loadVarAgg ag34 rfl (objAll S 3 rfl)) (.tmp (E.slot _ _ rfl) (.tmp (E.slot _ _ rfl) .nil))) rfl (.inr ⟨by rw [hrd]; exact he0, by rw [hrd]; exact hR, B4, d5, ?_, ?_⟩)
              · rw [hrd]; dsimp only; rw [hTl, hTd]; rfl
              have S : St _ _ _ [_, _, _, _, _] := S.sel [0, 2, 3, 4, 1] _ rfl rfl
              have S := S.drop1.drop1.drop1.drop1
              · rw [hrd]; dsimp only; rw [hTl, hTd]; exact S
            · skip
              exact RunT.none
        · skip
          replace E := E.setb 78 rfl (decide_eq_false hR)
          refine Run.not rfl E rfl rfl rfl rfl ?_; clear E a; intro a E
          refine Run.pickT rfl E rfl rfl rfl rfl ?_; clear E a; intro a E
          refine Run.nil ?_
          refine then_n ?_
          refine cond_T E rfl ?_
          refine region_plain (n := 4) [(0, .p), (1, .p), (2, .p), (3, .l)] rfl rfl ?_
          refine Run.move rfl E rfl rfl rfl ?_; clear E a; intro a E
          refine Run.nilCheck rfl E rfl rfl rfl ?_; clear E a; intro a E
          refine Run.fieldAddr rfl E rfl rfl rfl fo152_2 (rfl) ?_; clear E a; intro a E
          refine Run.store (news := [.int .i64 11]) (cs' := [_, _, _]) (hp' := [_, _, _, _, _]) 0 rfl E S rfl rfl rfl rfl rfl sz25 rfl rfl rfl rfl ?_; clear S; intro w S
          refine Run.nil ?_
          refine then_n ?_
          refine wp_seq ?_
          refine wp_seq ?_
          refine region_plain (n := 5) [(0, .p), (1, .p), (2, .p), (3, .l), (4, .p)] rfl rfl ?_
          refine Run.move rfl E rfl rfl rfl ?_; clear E a; intro a E
          refine Run.nilCheck rfl E rfl rfl rfl ?_; clear E a; intro a E
          refine Run.fieldAddr rfl E rfl rfl rfl fo152_2 (rfl) ?_; clear E a; intro a E
          refine Run.load1 rfl rfl E S rfl rfl rfl one25 (fun _ s => s.objCell 0 2 rfl rfl) ?_; clear E a; intro a E
          refine Run.nei rfl E rfl rfl rfl rfl (b := true) (by decide) ?_; clear E a; intro a E
          refine Run.nil ?_
          refine then_n ?_
          refine cond_T E rfl ?_
          refine wp_seq ?_
          refine region_tree (n := 8) (.one 0 .p (.one 1 .p (.one 2 .p (.one 3 .p (.alt 4 (.one 5 .l (.one 6 .p (.one 7 .p .done))) (.altl 5 (.one 6 .p (.one 4 .t (.one 7 .p .done))) .none)))))) [0, 0, 2, 6, 14, 1, 33, 127] S mixed rfl rfl (by kernel_rfl) (fun _ _ _ _ _ h => h) ?_; clear S; intro w S B_; clear B_
          refine RunT.one ?_
          refine Run.build (cs := #[.int .i64 0, .int .i64 0, .int .i64 0, .int .i64 0, .int .i64 0, .int .i64 0, .int .i64 0, .slice none 0 0]) [] rfl E rfl rfl rfl (by kernel_rfl) ?_; clear E a; intro a E
          refine RunT.end ?_
          refine RunT.one ?_
          refine Run.move rfl E rfl rfl rfl ?_; clear E a; intro a E
          refine RunT.end ?_
          refine RunT.one ?_
          refine Run.nilCheck rfl E rfl rfl rfl ?_; clear E a; intro a E
          refine RunT.end ?_
          refine RunT.one ?_
          refine Run.fieldAddr rfl E rfl rfl rfl fo152_2 (rfl) ?_; clear E a; intro a E
          refine RunT.end ?_
          refine RunT.alt ?_ ?_
          · skip
            refine Run.load1 rfl rfl E S rfl rfl rfl one25 (fun _ s => s.objCell 0 2 rfl rfl) ?_; clear E a; intro a E
            refine RunT.end ?_
            refine RunT.one ?_
            refine Run.store (news := [.int .i64 0, .int .i64 0, .int .i64 0, .int .i64 0, .int .i64 0, .int .i64 0, .int .i64 0, .slice none 0 0]) (cs' := [_, _, _, _, _, _, _, _]) (hp' := [_, _, _, _, _]) 3 rfl E S rfl rfl rfl rfl rfl sz34 rfl rfl rfl rfl ?_; clear S; intro w S
            refine RunT.end ?_
            refine RunT.one ?_
            refine Run.assign rfl E rfl rfl rfl ?_; clear E a; intro a E
            refine RunT.end ?_
            refine RunT.one ?_
            refine Run.assign rfl E rfl rfl rfl ?_; clear E a; intro a E
            refine RunT.end ?_
            refine RunT.done ?_
            refine then_n ?_
            refine wp_ret ?_
            refine then_r ?_
            exact retN E (vs := [.agg #[.int .i64 0, .int .i64 0, .int .i64 0, .int .i64 0, .int .i64 0, .int .i64 0, .int .i64 0, .slice none 0 0], .int .i64 0, .int .i64 11]) Try.results66 (.cell (E.slot _ _ rfl) (run_loadVarAgg ag34 rfl (objAll S 3 rfl)) (.tmp (E.slot _ _ rfl) (.tmp (E.slot _ _ rfl) .nil))) rfl (.inl ⟨11, .inr ⟨by rw [hrd]; exact he0, by rw [hrd]; exact hR, rfl⟩, rfl, S.belT⟩)
          · skip
            refine RunT.altl ?_ ?_
            · skip
              refine Run.store (news := [.int .i64 0, .int .i64 0, .int .i64 0, .int .i64 0, .int .i64 0, .int .i64 0, .int .i64 0, .slice none 0 0]) (cs' := [_, _, _, _, _, _, _, _]) (hp' := [_, _, _, _, _]) 3 rfl E S rfl rfl rfl rfl rfl sz34 rfl rfl rfl rfl ?_; clear S; intro w S
              refine RunT.end ?_
              refine RunT.one ?_
              refine Run.assign rfl E rfl rfl rfl ?_; clear E a; intro a E
              refine RunT.end ?_
              refine RunT.one ?_
              refine Run.load1 rfl rfl E S rfl rfl rfl one25 (fun _ s => s.objCell 0 2 rfl rfl) ?_; clear E a; intro a E
              refine RunT.end ?_
              refine RunT.one ?_
              refine Run.assign rfl E rfl rfl rfl ?_; clear E a; intro a E
              refine RunT.end ?_
              refine RunT.done ?_
              refine then_n ?_
              refine wp_ret ?_
              refine then_r ?_
              exact retN E (vs := [.agg #[.int .i64 0, .int .i64 0, .int .i64 0, .int .i64 0, .int .i64 0, .int .i64 0, .int .i64 0, .slice none 0 0], .int .i64 0, .int .i64 11]) Try.results66 (.cell (E.slot _ _ rfl) (run_loadVarAgg ag34 rfl (objAll S 3 rfl)) (.tmp (E.slot _ _ rfl) (.tmp (E.slot _ _ rfl) .nil))) rfl (.inl ⟨11, .inr ⟨by rw [hrd]; exact he0, by rw [hrd]; exact hR, rfl⟩, rfl, S.belT⟩)
            · skip
              exact RunT.none
      · skip
        refine Run.eqi rfl E rfl rfl rfl rfl (decide_eq_false (by omega)) ?_; clear E a; intro a E
        refine Run.move rfl E rfl rfl rfl ?_; clear E a; intro a E
        refine Run.off rfl E rfl rfl ?_; clear E a; intro a E
        refine Run.off rfl E rfl rfl ?_; clear E a; intro a E
        refine Run.off rfl E rfl rfl ?_; clear E a; intro a E
        refine Run.off rfl E rfl rfl ?_; clear E a; intro a E
        refine Run.off rfl E rfl rfl ?_; clear E a; intro a E
        refine Run.pickF rfl E rfl rfl rfl rfl ?_; clear E a; intro a E
        refine Run.nil ?_
        refine then_n ?_
        refine cond_F E rfl ?_
        refine wp_skip ?_
        refine then_n ?_
        refine wp_seq ?_
        refine wp_seq ?_
        refine region_plain (n := 5) [(0, .p), (1, .p), (2, .p), (3, .l), (4, .p)] rfl rfl ?_
        refine Run.move rfl E rfl rfl rfl ?_; clear E a; intro a E
        refine Run.nilCheck rfl E rfl rfl rfl ?_; clear E a; intro a E
        refine Run.fieldAddr rfl E rfl rfl rfl fo152_2 (rfl) ?_; clear E a; intro a E
        refine Run.load1 rfl rfl E S rfl rfl rfl one25 (fun _ s => s.objCell 0 2 rfl rfl) ?_; clear E a; intro a E
        refine Run.nei rfl E rfl rfl rfl rfl (decide_eq_true (by omega)) ?_; clear E a; intro a E
        refine Run.nil ?_
        refine then_n ?_
        refine cond_T E rfl ?_
        refine wp_seq ?_
        refine region_tree (n := 8) (.one 0 .p (.one 1 .p (.one 2 .p (.one 3 .p (.alt 4 (.one 5 .l (.one 6 .p (.one 7 .p .done))) (.altl 5 (.one 6 .p (.one 4 .t (.one 7 .p .done))) .none)))))) [0, 0, 2, 6, 14, 1, 33, 127] S mixed rfl rfl (by kernel_rfl) (fun _ _ _ _ _ h => h) ?_; clear S; intro w S B_; clear B_
        refine RunT.one ?_
        refine Run.build (cs := #[.int .i64 0, .int .i64 0, .int .i64 0, .int .i64 0, .int .i64 0, .int .i64 0, .int .i64 0, .slice none 0 0]) [] rfl E rfl rfl rfl (by kernel_rfl) ?_; clear E a; intro a E
        refine RunT.end ?_
        refine RunT.one ?_
        refine Run.move rfl E rfl rfl rfl ?_; clear E a; intro a E
        refine RunT.end ?_
        refine RunT.one ?_
        refine Run.nilCheck rfl E rfl rfl rfl ?_; clear E a; intro a E
        refine RunT.end ?_
        refine RunT.one ?_
        refine Run.fieldAddr rfl E rfl rfl rfl fo152_2 (rfl) ?_; clear E a; intro a E
        refine RunT.end ?_
        refine RunT.alt ?_ ?_
        · skip
          refine Run.load1 rfl rfl E S rfl rfl rfl one25 (fun _ s => s.objCell 0 2 rfl rfl) ?_; clear E a; intro a E
          refine RunT.end ?_
          refine RunT.one ?_
          refine Run.store (news := [.int .i64 0, .int .i64 0, .int .i64 0, .int .i64 0, .int .i64 0, .int .i64 0, .int .i64 0, .slice none 0 0]) (cs' := [_, _, _, _, _, _, _, _]) (hp' := [_, _, _, _, _]) 3 rfl E S rfl rfl rfl rfl rfl sz34 rfl rfl rfl rfl ?_; clear S; intro w S
          refine RunT.end ?_
          refine RunT.one ?_
          refine Run.assign rfl E rfl rfl rfl ?_; clear E a; intro a E
          refine RunT.end ?_
          refine RunT.one ?_
          refine Run.assign rfl E rfl rfl rfl ?_; clear E a; intro a E
          refine RunT.end ?_
          refine RunT.done ?_
          refine then_n ?_
          refine wp_ret ?_
          refine then_r ?_
          exact retN E (vs := [.agg #[.int .i64 0, .int .i64 0, .int .i64 0, .int .i64 0, .int .i64 0, .int .i64 0, .int .i64 0, .slice none 0 0], .int .i64 0, .int .i64 (e8 : Int)]) Try.results66 (.cell (E.slot _ _ rfl) (run_loadVarAgg ag34 rfl (objAll S 3 rfl)) (.tmp (E.slot _ _ rfl) (.tmp (E.slot _ _ rfl) .nil))) rfl (.inl ⟨e8, .inl ⟨by rw [hrd], he0⟩, rfl, S.belT⟩)
        · skip
          refine RunT.altl ?_ ?_
          · skip
            refine Run.store (news := [.int .i64 0, .int .i64 0, .int .i64 0, .int .i64 0, .int .i64 0, .int .i64 0, .int .i64 0, .slice none 0 0]) (cs' := [_, _, _, _, _, _, _, _]) (hp' := [_, _, _, _, _]) 3 rfl E S rfl rfl rfl rfl rfl sz34 rfl rfl rfl rfl ?_; clear S; intro w S
            refine RunT.end ?_
            refine RunT.one ?_
            refine Run.assign rfl E rfl rfl rfl ?_; clear E a; intro a E
            refine RunT.end ?_
            refine RunT.one ?_
            refine Run.load1 rfl rfl E S rfl rfl rfl one25 (fun _ s => s.objCell 0 2 rfl rfl) ?_; clear E a; intro a E
            refine RunT.end ?_
            refine RunT.one ?_
            refine Run.assign rfl E rfl rfl rfl ?_; clear E a; intro a E
            refine RunT.end ?_
            refine RunT.done ?_
            refine then_n ?_
            refine wp_ret ?_
            refine then_r ?_
            exact retN E (vs := [.agg #[.int .i64 0, .int .i64 0, .int .i64 0, .int .i64 0, .int .i64 0, .int .i64 0, .int .i64 0, .slice none 0 0], .int .i64 0, .int .i64 (e8 : Int)]) Try.results66 (.cell (E.slot _ _ rfl) (run_loadVarAgg ag34 rfl (objAll S 3 rfl)) (.tmp (E.slot _ _ rfl) (.tmp (E.slot _ _ rfl) .nil))) rfl (.inl ⟨e8, .inl ⟨by rw [hrd], he0⟩, rfl, S.belT⟩)
          · skip
            exact RunT.none

end
end Go.Proofs.Ytlcglefbhlhcpaa.K
