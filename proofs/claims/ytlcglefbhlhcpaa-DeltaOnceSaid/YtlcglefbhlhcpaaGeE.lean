/- The reference reads a state. -/
import Derived.Test.YtlcglefbhlhcpaaKg
import Derived.Test.YtlcglefbhlhcpaaGeT
namespace Go.Proofs.Ytlcglefbhlhcpaa.K
open Go.RowKit
set_option linter.unusedVariables false
set_option maxRecDepth 100000
set_option maxHeartbeats 400000

section
variable {w0 : World} {A C : Option Addr} {c d : Nat} {b : List Nat} {at_ : Int} {s : Sta}

set_option maxHeartbeats 4000000 in
theorem rread_walk (H1 : Rd w0 A b.length 1 (u8s b)) (hb8 : ∀ x ∈ b, x < 256) (hl : b.length ≤ 140737488355328) (H2 : Rd w0 C s.caps.length 1 (ints s.caps)) (hs : s.caps.length ≤ 140737488355328) (hB : s.base) (hs200 : s.caps.length ≤ 202) : Calls Try.prog 67 [.agg #[.int .i64 s.kind, .int .i64 s.node, .int .i64 s.phase, .int .i64 s.pos, .int .i64 s.start, .int .i64 s.depth, .int .i64 s.org, .slice C s.caps.length d], .slice A b.length c, .int .i64 at_].toArray w0 (fun r w' => ∃ D e, r = .returned (.tuple #[.agg #[.int .i64 ((rdF s b at_).2.2.kind), .int .i64 ((rdF s b at_).2.2.node), .int .i64 ((rdF s b at_).2.2.phase), .int .i64 ((rdF s b at_).2.2.pos), .int .i64 ((rdF s b at_).2.2.start), .int .i64 ((rdF s b at_).2.2.depth), .int .i64 ((rdF s b at_).2.2.org), .slice D ((rdF s b at_).2.2.caps.length) e], .int .i64 (IntKind.i64.wrap ((rdF s b at_).1 - at_)), .int .i64 (((rdF s b at_).2.1 : Nat) : Int)]) ∧ St [] w0 w' [.row (.slice D (rdF s b at_).2.2.caps.length e) 3 1 (rdF s b at_).2.2.caps.length (ints (rdF s b at_).2.2.caps)]) := by
  have S := St.nil [] w0
  obtain ⟨hss, hsc⟩ := base_small hB
  refine fn_start Try.func67 rfl 165 rfl rfl [(0, _), (1, _), (2, _)] ⟨rfl, rfl, rfl, trivial⟩ ?_; intro a E
  refine wp_seq ?_
  refine region_plain (n := 4) [(0, .e), (1, .e), (2, .p), (3, .p)] rfl rfl ?_
  refine Run.box (cs := [.int .i64 s.kind, .int .i64 s.node, .int .i64 s.phase, .int .i64 s.pos, .int .i64 s.start, .int .i64 s.depth, .int .i64 s.org, .slice C s.caps.length d]) rfl rfl E S rfl rfl rfl rfl ?_; clear E a S; intro b1 w a E S B_; clear B_
  refine Run.alloc rfl rfl E S rfl rfl z93 rfl ?_; clear E a S; intro b2 w a E S B_; clear B_
  refine Run.assign rfl E rfl rfl rfl ?_; clear E a; intro a E
  refine Run.assign rfl E rfl rfl rfl ?_; clear E a; intro a E
  refine Run.nil ?_
  refine then_n ?_
  refine wp_seq ?_
  refine region_plain (n := 5) [(0, .p), (1, .p), (2, .p), (3, .e), (4, .l)] rfl rfl ?_
  refine Run.move rfl E rfl rfl rfl ?_; clear E a; intro a E
  refine Run.move rfl E rfl rfl rfl ?_; clear E a; intro a E
  refine Run.build (cs := #[.slice A b.length c, .int .i64 at_, .int .i64 0]) [(0, .slice A b.length c), (1, .int .i64 at_)] rfl E rfl rfl rfl (by kernel_rfl) ?_; clear E a; intro a E
  refine Run.alloc rfl rfl E S rfl rfl z157 rfl ?_; clear E a S; intro b3 w a E S B_; clear B_
  refine Run.store (news := [.slice A b.length c, .int .i64 at_, .int .i64 0]) (cs' := [_, _, _]) (hp' := [_, _, _]) 0 rfl E S rfl rfl rfl rfl rfl sz157 rfl rfl rfl rfl ?_; clear S; intro w S
  refine Run.nil ?_
  refine then_n ?_
  refine wp_seq ?_
  refine region_plain (n := 7) [(0, .l), (1, .e), (2, .p), (3, .p), (4, .p), (5, .l), (6, .p)] rfl rfl ?_
  refine Run.loadN (cs := [.slice A b.length c, .int .i64 at_, .int .i64 0]) rfl rfl E S rfl rfl rfl ag157 rfl (fun _ s => objAll s 0 rfl) ?_; clear E a; intro a E
  obtain ⟨a4, e5, v6, hr7⟩ : ∃ (x : Int) (y : Nat) (z : Int), numR b at_ 0 14 = (x, y, z) := ⟨_, _, _, rfl⟩
  have hc := rnumber_walk (A := A) (c := c) (at_ := at_) (e := 0) (most := 14) (H1.bel S.belT) hb8 hl (by omega) (by omega)
  rw [hr7] at hc; dsimp only at hc
  have hvv6 := numR_ge b at_ 0 14 (by omega); rw [hr7] at hvv6; dsimp only at hvv6
  refine Run.call (args := [.agg #[.slice A b.length c, .int .i64 at_, .int .i64 0], .int .i64 14]) rfl rfl E rfl rfl Try.func107 nm107 rfl rfl (hc) ?_; rintro e_ w ⟨rfl, B_⟩; refine ⟨_, rfl, fun _ => B_, ?_⟩; clear E a; replace S := S.bel B_; intro a E
  clear B_
  refine Run.move rfl E rfl rfl rfl ?_; clear E a; intro a E
  refine Run.extract rfl E rfl rfl rfl rfl ?_; clear E a; intro a E
  refine Run.extract rfl E rfl rfl rfl rfl ?_; clear E a; intro a E
  refine Run.store (news := [.slice A b.length c, .int .i64 a4, .int .i64 (e5 : Int)]) (cs' := [_, _, _]) (hp' := [_, _, _]) 0 rfl E S rfl rfl rfl rfl rfl sz157 rfl rfl rfl rfl ?_; clear S; intro w S
  refine Run.assign rfl E rfl rfl rfl ?_; clear E a; intro a E
  refine Run.nil ?_
  refine then_n ?_
  refine wp_seq ?_
  refine region_plain (n := 7) [(0, .l), (1, .e), (2, .p), (3, .p), (4, .p), (5, .l), (6, .p)] rfl rfl ?_
  refine Run.loadN (cs := [.slice A b.length c, .int .i64 a4, .int .i64 (e5 : Int)]) rfl rfl E S rfl rfl rfl ag157 rfl (fun _ s => objAll s 0 rfl) ?_; clear E a; intro a E
  obtain ⟨a8, e9, v10, hr11⟩ : ∃ (x : Int) (y : Nat) (z : Int), numR b a4 e5 127 = (x, y, z) := ⟨_, _, _, rfl⟩
  have hc := rnumber_walk (A := A) (c := c) (at_ := a4) (e := e5) (most := 127) (H1.bel S.belT) hb8 hl (by omega) (by omega)
  rw [hr11] at hc; dsimp only at hc
  have hvv10 := numR_ge b a4 e5 127 (by omega); rw [hr11] at hvv10; dsimp only at hvv10
  refine Run.call (args := [.agg #[.slice A b.length c, .int .i64 a4, .int .i64 (e5 : Int)], .int .i64 127]) rfl rfl E rfl rfl Try.func107 nm107 rfl rfl (hc) ?_; rintro e_ w ⟨rfl, B_⟩; refine ⟨_, rfl, fun _ => B_, ?_⟩; clear E a; replace S := S.bel B_; intro a E
  clear B_
  refine Run.move rfl E rfl rfl rfl ?_; clear E a; intro a E
  refine Run.extract rfl E rfl rfl rfl rfl ?_; clear E a; intro a E
  refine Run.extract rfl E rfl rfl rfl rfl ?_; clear E a; intro a E
  obtain ⟨mk, hmk⟩ : ∃ mk : Nat, (mk : Int) = v10 := ⟨v10.toNat, by omega⟩
  have hmk7 : mk < 128 := by omega
  rw [← hmk] at E hr11
  refine Run.store (news := [.slice A b.length c, .int .i64 a8, .int .i64 (e9 : Int)]) (cs' := [_, _, _]) (hp' := [_, _, _]) 0 rfl E S rfl rfl rfl rfl rfl sz157 rfl rfl rfl rfl ?_; clear S; intro w S
  refine Run.assign rfl E rfl rfl rfl ?_; clear E a; intro a E
  refine Run.nil ?_
  refine then_n ?_
  refine wp_seq ?_
  refine region_plain (n := 5) [(0, .p), (1, .l), (2, .p), (3, .e), (4, .l)] rfl rfl ?_
  refine Run.fieldAddr rfl E rfl rfl rfl fo93_0 (rfl) ?_; clear E a; intro a E
  refine Run.loadN (cs := [.int .i64 s.kind, .int .i64 s.node, .int .i64 s.phase, .int .i64 s.pos, .int .i64 s.start, .int .i64 s.depth, .int .i64 s.org]) rfl rfl E S rfl rfl rfl ag91 rfl (fun _ s => objPart s 2 0 _ rfl rfl) ?_; clear E a; intro a E
  refine Run.build (cs := #[.int .i64 s.kind, .int .i64 s.node, .int .i64 s.phase, .int .i64 s.pos, .int .i64 s.start, .int .i64 s.depth, .int .i64 s.org, .slice none 0 0]) [(0, .agg #[.int .i64 s.kind, .int .i64 s.node, .int .i64 s.phase, .int .i64 s.pos, .int .i64 s.start, .int .i64 s.depth, .int .i64 s.org])] rfl E rfl rfl rfl (by kernel_rfl) ?_; clear E a; intro a E
  refine Run.alloc rfl rfl E S rfl rfl z93 rfl ?_; clear E a S; intro b12 w a E S B_; clear B_
  refine Run.store (news := [.int .i64 s.kind, .int .i64 s.node, .int .i64 s.phase, .int .i64 s.pos, .int .i64 s.start, .int .i64 s.depth, .int .i64 s.org, .slice none 0 0]) (cs' := [_, _, _, _, _, _, _, _]) (hp' := [_, _, _, _]) 0 rfl E S rfl rfl rfl rfl rfl sz93 rfl rfl rfl rfl ?_; clear S; intro w S
  refine Run.nil ?_
  refine then_n ?_
  refine wp_seq ?_
  refine region_plain (n := 4) [(0, .p), (1, .p), (2, .p), (3, .l)] rfl rfl ?_
  refine Run.move rfl E rfl rfl rfl ?_; clear E a; intro a E
  refine Run.fieldAddr rfl E rfl rfl rfl fo93_0 (rfl) ?_; clear E a; intro a E
  refine Run.indexArr rfl E rfl rfl rfl rfl Try.underlying91 sz3 (by decide) (q := ⟨b12, 0, none⟩) rfl ?_; clear E a; intro a E
  refine Run.store (news := [.int .i64 v6]) (cs' := [_, _, _, _, _, _, _, _]) (hp' := [_, _, _, _]) 0 rfl E S rfl rfl rfl rfl rfl sz3 rfl rfl rfl rfl ?_; clear S; intro w S
  refine Run.nil ?_
  refine then_n ?_
  refine wp_seq ?_
  refine region_plain (n := 7) [(0, .p), (1, .l), (2, .p), (3, .l), (4, .l), (5, .p), (6, .l)] rfl rfl ?_
  refine Run.fieldAddr rfl E rfl rfl rfl fo93_1 (rfl) ?_; clear E a; intro a E
  refine Run.load1 rfl rfl E S rfl rfl rfl one32 (fun _ s => s.objCell 0 7 rfl rfl) ?_; clear E a; intro a E
  refine Run.fieldAddr rfl E rfl rfl rfl fo93_1 (rfl) ?_; clear E a; intro a E
  refine Run.load1 rfl rfl E S rfl rfl rfl one32 (fun _ s => s.objCell 3 7 rfl rfl) ?_; clear E a; intro a E
  replace S := S.addNil 3 1
  refine Run.appendRd (news := ints s.caps) (nm := s.caps.length) 0 rfl E S rfl rfl rfl rfl rfl Try.underlying32 I3 rfl rfl (H2.bel S.belT) (ints_one _) (by omega) (by omega) (by omega) ?_; clear E a S; intro A13 c14 w a E S
  replace S : St _ _ _ [_, .obj _ _ [_, _, _, _, _, _, _, _], .obj _ _ [_, _, _], .obj _ _ [_, _, _, _, _, _, _, _], .obj _ _ [_, _, _, _, _, _, _, _]] := S
  refine Run.fieldAddr rfl E rfl rfl rfl fo93_1 (rfl) ?_; clear E a; intro a E
  refine Run.store (news := [.slice A13 s.caps.length c14]) (cs' := [_, _, _, _, _, _, _, _]) (hp' := [_, _, _, _, _]) 1 rfl E S rfl rfl rfl rfl rfl sz32 rfl rfl rfl rfl ?_; clear S; intro w S
  refine Run.nil ?_
  refine then_n ?_
  refine wp_seq ?_
  refine wp_seq ?_
  refine region_plain (n := 1) [(0, .p)] rfl rfl ?_
  refine Run.assign rfl E rfl rfl rfl ?_; clear E a; intro a E
  refine Run.nil ?_
  refine then_n ?_
  refine wp_block ?_
  replace S : St _ _ _ [_, _, _, _, _] := S.sel [2, 1, 0, 3, 4] _ rfl rfl
  replace E := E.setv 11 rfl (show Value.int .i64 (mk : Int) = .int .i64 ((mk / 2 ^ 0 : Nat) : Int) by rw [Nat.pow_zero, Nat.div_one])
  refine wp_loop_ghost (fun n_ a w => ∃ i : Nat, ∃ p : Int, ∃ q : Nat, ∃ x0 : Int, ∃ x1 : Int, ∃ x2 : Int, ∃ x3 : Int, ∃ x4 : Int, ∃ x5 : Int, 6 - i = n_ ∧ Env 165 [(2, .int .i64 at_), (6, .pointer (some ⟨b2, 0, none⟩)), (7, .int .i64 0), (8, .int .i64 0), (9, .pointer (some ⟨b3, 0, none⟩)), (11, .int .i64 ((mk / 2 ^ i : Nat) : Int)), (12, .pointer (some ⟨b12, 0, none⟩)), (13, .int .i64 ((i + 1 : Nat) : Int))] a ∧ St _ _ w [.obj b3 157 [.slice A b.length c, .int .i64 p, .int .i64 (q : Int)], .obj b12 93 [.int .i64 v6, .int .i64 x0, .int .i64 x1, .int .i64 x2, .int .i64 x3, .int .i64 x4, .int .i64 x5, .slice A13 s.caps.length c14], .row (.slice A13 s.caps.length c14) 3 1 s.caps.length (([]) ++ (ints s.caps)), .obj b2 93 [.int .i64 0, .int .i64 0, .int .i64 0, .int .i64 0, .int .i64 0, .int .i64 0, .int .i64 0, .slice none 0 0], .obj b1 93 [.int .i64 s.kind, .int .i64 s.node, .int .i64 s.phase, .int .i64 s.pos, .int .i64 s.start, .int .i64 s.depth, .int .i64 s.org, .slice C s.caps.length d]] ∧ (i ≤ 6) ∧ (flS b mk a8 e9 s.nums.tail i = (p, q, [x0, x1, x2, x3, x4, x5])) ∧ (∀ x ∈ [x0, x1, x2, x3, x4, x5], inr x)) _ ⟨0, a8, e9, s.node, s.phase, s.pos, s.start, s.depth, s.org, rfl, E.keeps [(2, _), (6, _), (7, _), (8, _), (9, _), (11, _), (12, _), (13, _)] ⟨rfl, rfl, rfl, rfl, rfl, rfl, rfl, rfl, trivial⟩, S, by decide, rfl, (fun x hx => inr_small (hss x (List.mem_cons_of_mem _ hx)))⟩ ?_
  clear E a S
  rintro n_ a w ⟨i, p, q, x0, x1, x2, x3, x4, x5, rfl, E, S, hi, hfl, hxr⟩
  refine wp_seq ?_
  refine wp_seq ?_
  refine region_plain (n := 2) [(0, .p), (1, .p)] rfl rfl ?_
  refine Run.move rfl E rfl rfl rfl ?_; clear E a; intro a E
  by_cases hlt : i < 6
  · skip
    rcases (by omega : i = 0 ∨ i = 1 ∨ i = 2 ∨ i = 3 ∨ i = 4 ∨ i = 5) with rfl | rfl | rfl | rfl | rfl | rfl
    · skip
      refine Run.lss rfl E rfl rfl rfl rfl (b := true) (by decide) ?_; clear E a; intro a E
      refine Run.nil ?_
      refine then_n ?_
      refine cond_T E rfl ?_
      refine wp_skip ?_
      refine then_n ?_
      refine wp_seq ?_
      refine wp_block ?_
      refine wp_seq ?_
      refine wp_seq ?_
      refine region_plain (n := 3) [(0, .p), (1, .p), (2, .p)] rfl rfl ?_
      refine Run.move rfl E rfl rfl rfl ?_; clear E a; intro a E
      refine Run.rem rfl E rfl rfl rfl rfl (by decide) (q := ((mk / 2 ^ 0 % 2 : Nat) : Int)) ((IntWalk.rem_in _ _ (by omega)).trans rfl) ?_; clear E a; intro a E
      by_cases hbit : mk / 2 ^ 0 % 2 = 1
      · skip
        refine Run.eqi rfl E rfl rfl rfl rfl (decide_eq_true (by omega)) ?_; clear E a; intro a E
        refine Run.nil ?_
        refine then_n ?_
        refine cond_T E rfl ?_
        refine wp_seq ?_
        refine region_plain (n := 8) [(0, .l), (1, .e), (2, .p), (3, .p), (4, .p), (5, .e), (6, .l), (7, .p)] rfl rfl ?_
        refine Run.loadN (cs := [.slice A b.length c, .int .i64 p, .int .i64 (q : Int)]) rfl rfl E S rfl rfl rfl ag157 rfl (fun _ s => objAll s 0 rfl) ?_; clear E a; intro a E
        obtain ⟨a15, e16, v17, hr18⟩ : ∃ (x : Int) (y : Nat) (z : Int), morR b p q = (x, y, z) := ⟨_, _, _, rfl⟩
        have hc := rmore_walk (A := A) (c := c) (at_ := p) (e := q) (H1.bel S.belT) hb8 hl
        rw [hr18] at hc; dsimp only at hc
        refine Run.call (args := [.agg #[.slice A b.length c, .int .i64 p, .int .i64 (q : Int)]]) rfl rfl E rfl rfl Try.func108 nm108 rfl rfl (hc) ?_; rintro e_ w ⟨rfl, B_⟩; refine ⟨_, rfl, fun _ => B_, ?_⟩; clear E a; replace S := S.bel B_; intro a E
        clear B_
        refine Run.move rfl E rfl rfl rfl ?_; clear E a; intro a E
        refine Run.extract rfl E rfl rfl rfl rfl ?_; clear E a; intro a E
        refine Run.extract rfl E rfl rfl rfl rfl ?_; clear E a; intro a E
        refine Run.alloc rfl rfl E S rfl rfl z157 rfl ?_; clear E a S; intro b19 w a E S B_; clear B_
        refine Run.store (news := [.slice A b.length c, .int .i64 a15, .int .i64 (e16 : Int)]) (cs' := [_, _, _]) (hp' := [_, _, _, _, _, _]) 0 rfl E S rfl rfl rfl rfl rfl sz157 rfl rfl rfl rfl ?_; clear S; intro w S
        refine Run.assign rfl E rfl rfl rfl ?_; clear E a; intro a E
        refine Run.nil ?_
        refine then_n ?_
        refine wp_seq ?_
        refine region_plain (n := 2) [(0, .l), (1, .l)] rfl rfl ?_
        refine Run.loadN (cs := [.slice A b.length c, .int .i64 a15, .int .i64 (e16 : Int)]) rfl rfl E S rfl rfl rfl ag157 rfl (fun _ s => objAll s 0 rfl) ?_; clear E a; intro a E
        refine Run.store (news := [.slice A b.length c, .int .i64 a15, .int .i64 (e16 : Int)]) (cs' := [_, _, _]) (hp' := [_, _, _, _, _, _]) 1 rfl E S rfl rfl rfl rfl rfl sz157 rfl rfl rfl rfl ?_; clear S; intro w S
        refine Run.nil ?_
        refine then_n ?_
        refine region_plain (n := 10) [(0, .p), (1, .p), (2, .p), (3, .p), (4, .l), (5, .p), (6, .p), (7, .p), (8, .p), (9, .l)] rfl rfl ?_
        refine Run.move rfl E rfl rfl rfl ?_; clear E a; intro a E
        refine Run.move rfl E rfl rfl rfl ?_; clear E a; intro a E
        refine Run.fieldAddr rfl E rfl rfl rfl fo93_0 (rfl) ?_; clear E a; intro a E
        refine Run.indexArr rfl E rfl rfl rfl rfl Try.underlying91 sz3 (by decide) (q := ⟨b12, 1, none⟩) rfl ?_; clear E a; intro a E
        refine Run.load1 rfl rfl E S rfl rfl rfl one3 (fun _ s => s.objCell 2 1 rfl rfl) ?_; clear E a; intro a E
        refine Run.move rfl E rfl rfl rfl ?_; clear E a; intro a E
        refine Run.add rfl E rfl rfl rfl rfl rfl ?_; clear E a; intro a E
        refine Run.fieldAddr rfl E rfl rfl rfl fo93_0 (rfl) ?_; clear E a; intro a E
        refine Run.indexArr rfl E rfl rfl rfl rfl Try.underlying91 sz3 (by decide) (q := ⟨b12, 1, none⟩) rfl ?_; clear E a; intro a E
        refine Run.store (news := [.int .i64 (IntKind.i64.wrap (x0 + v17))]) (cs' := [_, _, _, _, _, _, _, _]) (hp' := [_, _, _, _, _, _]) 2 rfl E S rfl rfl rfl rfl rfl sz3 rfl rfl rfl rfl ?_; clear S; intro w S
        refine Run.nil ?_
        refine then_n ?_
        refine region_plain (n := 3) [(0, .p), (1, .p), (2, .p)] rfl rfl ?_
        refine Run.move rfl E rfl rfl rfl ?_; clear E a; intro a E
        refine Run.quo rfl E rfl rfl rfl rfl (by decide) (q := ((mk / 2 ^ (0 + 1) : Nat) : Int)) ((IntWalk.i64_quo _ _ (by omega)).trans (by omega)) ?_; clear E a; intro a E
        refine Run.assign rfl E rfl rfl rfl ?_; clear E a; intro a E
        refine Run.nil ?_
        refine blk_n ?_
        refine then_n ?_
        refine region_plain (n := 3) [(0, .p), (1, .p), (2, .p)] rfl rfl ?_
        refine Run.move rfl E rfl rfl rfl ?_; clear E a; intro a E
        refine Run.add rfl E rfl rfl rfl rfl (q := 2) (by kernel_rfl) ?_; clear E a; intro a E
        refine Run.assign rfl E rfl rfl rfl ?_; clear E a; intro a E
        refine Run.nil ?_
        refine then_n ?_
        replace E := E.setv 11 rfl (show Value.int .i64 (((mk / 2 ^ (0 + 1) : Nat) : Int)) = .int .i64 ((mk / 2 ^ (0 + 1) : Nat) : Int) by rfl)
        replace E := E.setv 13 rfl (show Value.int .i64 (2) = .int .i64 ((0 + 1 + 1 : Nat) : Int) from rfl)
        have S : St _ _ _ [_, _, _, _, _, _] := S.sel [0, 1, 2, 3, 4, 5] _ rfl rfl
        have S := S.drop1
        exact ⟨_, (by decide), (0 + 1), a15, e16, (IntKind.i64.wrap (x0 + v17)), x1, x2, x3, x4, x5, rfl, E.keeps [(2, _), (6, _), (7, _), (8, _), (9, _), (11, _), (12, _), (13, _)] ⟨rfl, rfl, rfl, rfl, rfl, rfl, rfl, rfl, trivial⟩, S, (by decide), (flS_on (x := x0) hfl hbit hr18 rfl), (fun x hx => by simp only [List.mem_cons, List.not_mem_nil, or_false] at hx; rcases hx with rfl | rfl | rfl | rfl | rfl | rfl <;> first | exact inr_wrap _ | exact hxr _ (by simp))⟩
      · skip
        refine Run.eqi rfl E rfl rfl rfl rfl (decide_eq_false (by omega)) ?_; clear E a; intro a E
        refine Run.nil ?_
        refine then_n ?_
        refine cond_F E rfl ?_
        refine wp_skip ?_
        refine then_n ?_
        refine region_plain (n := 3) [(0, .p), (1, .p), (2, .p)] rfl rfl ?_
        refine Run.move rfl E rfl rfl rfl ?_; clear E a; intro a E
        refine Run.quo rfl E rfl rfl rfl rfl (by decide) (q := ((mk / 2 ^ (0 + 1) : Nat) : Int)) ((IntWalk.i64_quo _ _ (by omega)).trans (by omega)) ?_; clear E a; intro a E
        refine Run.assign rfl E rfl rfl rfl ?_; clear E a; intro a E
        refine Run.nil ?_
        refine blk_n ?_
        refine then_n ?_
        refine region_plain (n := 3) [(0, .p), (1, .p), (2, .p)] rfl rfl ?_
        refine Run.move rfl E rfl rfl rfl ?_; clear E a; intro a E
        refine Run.add rfl E rfl rfl rfl rfl (q := 2) (by kernel_rfl) ?_; clear E a; intro a E
        refine Run.assign rfl E rfl rfl rfl ?_; clear E a; intro a E
        refine Run.nil ?_
        refine then_n ?_
        replace E := E.setv 11 rfl (show Value.int .i64 (((mk / 2 ^ (0 + 1) : Nat) : Int)) = .int .i64 ((mk / 2 ^ (0 + 1) : Nat) : Int) by rfl)
        replace E := E.setv 13 rfl (show Value.int .i64 (2) = .int .i64 ((0 + 1 + 1 : Nat) : Int) from rfl)
        exact ⟨_, (by decide), (0 + 1), p, q, x0, x1, x2, x3, x4, x5, rfl, E.keeps [(2, _), (6, _), (7, _), (8, _), (9, _), (11, _), (12, _), (13, _)] ⟨rfl, rfl, rfl, rfl, rfl, rfl, rfl, rfl, trivial⟩, S, (by decide), (flS_off hfl hbit), hxr⟩
    · skip
      refine Run.lss rfl E rfl rfl rfl rfl (b := true) (by decide) ?_; clear E a; intro a E
      refine Run.nil ?_
      refine then_n ?_
      refine cond_T E rfl ?_
      refine wp_skip ?_
      refine then_n ?_
      refine wp_seq ?_
      refine wp_block ?_
      refine wp_seq ?_
      refine wp_seq ?_
      refine region_plain (n := 3) [(0, .p), (1, .p), (2, .p)] rfl rfl ?_
      refine Run.move rfl E rfl rfl rfl ?_; clear E a; intro a E
      refine Run.rem rfl E rfl rfl rfl rfl (by decide) (q := ((mk / 2 ^ 1 % 2 : Nat) : Int)) ((IntWalk.rem_in _ _ (by omega)).trans rfl) ?_; clear E a; intro a E
      by_cases hbit : mk / 2 ^ 1 % 2 = 1
      · skip
        refine Run.eqi rfl E rfl rfl rfl rfl (decide_eq_true (by omega)) ?_; clear E a; intro a E
        refine Run.nil ?_
        refine then_n ?_
        refine cond_T E rfl ?_
        refine wp_seq ?_
        refine region_plain (n := 8) [(0, .l), (1, .e), (2, .p), (3, .p), (4, .p), (5, .e), (6, .l), (7, .p)] rfl rfl ?_
        refine Run.loadN (cs := [.slice A b.length c, .int .i64 p, .int .i64 (q : Int)]) rfl rfl E S rfl rfl rfl ag157 rfl (fun _ s => objAll s 0 rfl) ?_; clear E a; intro a E
        obtain ⟨a20, e21, v22, hr23⟩ : ∃ (x : Int) (y : Nat) (z : Int), morR b p q = (x, y, z) := ⟨_, _, _, rfl⟩
        have hc := rmore_walk (A := A) (c := c) (at_ := p) (e := q) (H1.bel S.belT) hb8 hl
        rw [hr23] at hc; dsimp only at hc
        refine Run.call (args := [.agg #[.slice A b.length c, .int .i64 p, .int .i64 (q : Int)]]) rfl rfl E rfl rfl Try.func108 nm108 rfl rfl (hc) ?_; rintro e_ w ⟨rfl, B_⟩; refine ⟨_, rfl, fun _ => B_, ?_⟩; clear E a; replace S := S.bel B_; intro a E
        clear B_
        refine Run.move rfl E rfl rfl rfl ?_; clear E a; intro a E
        refine Run.extract rfl E rfl rfl rfl rfl ?_; clear E a; intro a E
        refine Run.extract rfl E rfl rfl rfl rfl ?_; clear E a; intro a E
        refine Run.alloc rfl rfl E S rfl rfl z157 rfl ?_; clear E a S; intro b24 w a E S B_; clear B_
        refine Run.store (news := [.slice A b.length c, .int .i64 a20, .int .i64 (e21 : Int)]) (cs' := [_, _, _]) (hp' := [_, _, _, _, _, _]) 0 rfl E S rfl rfl rfl rfl rfl sz157 rfl rfl rfl rfl ?_; clear S; intro w S
        refine Run.assign rfl E rfl rfl rfl ?_; clear E a; intro a E
        refine Run.nil ?_
        refine then_n ?_
        refine wp_seq ?_
        refine region_plain (n := 2) [(0, .l), (1, .l)] rfl rfl ?_
        refine Run.loadN (cs := [.slice A b.length c, .int .i64 a20, .int .i64 (e21 : Int)]) rfl rfl E S rfl rfl rfl ag157 rfl (fun _ s => objAll s 0 rfl) ?_; clear E a; intro a E
        refine Run.store (news := [.slice A b.length c, .int .i64 a20, .int .i64 (e21 : Int)]) (cs' := [_, _, _]) (hp' := [_, _, _, _, _, _]) 1 rfl E S rfl rfl rfl rfl rfl sz157 rfl rfl rfl rfl ?_; clear S; intro w S
        refine Run.nil ?_
        refine then_n ?_
        refine region_plain (n := 10) [(0, .p), (1, .p), (2, .p), (3, .p), (4, .l), (5, .p), (6, .p), (7, .p), (8, .p), (9, .l)] rfl rfl ?_
        refine Run.move rfl E rfl rfl rfl ?_; clear E a; intro a E
        refine Run.move rfl E rfl rfl rfl ?_; clear E a; intro a E
        refine Run.fieldAddr rfl E rfl rfl rfl fo93_0 (rfl) ?_; clear E a; intro a E
        refine Run.indexArr rfl E rfl rfl rfl rfl Try.underlying91 sz3 (by decide) (q := ⟨b12, 2, none⟩) rfl ?_; clear E a; intro a E
        refine Run.load1 rfl rfl E S rfl rfl rfl one3 (fun _ s => s.objCell 2 2 rfl rfl) ?_; clear E a; intro a E
        refine Run.move rfl E rfl rfl rfl ?_; clear E a; intro a E
        refine Run.add rfl E rfl rfl rfl rfl rfl ?_; clear E a; intro a E
        refine Run.fieldAddr rfl E rfl rfl rfl fo93_0 (rfl) ?_; clear E a; intro a E
        refine Run.indexArr rfl E rfl rfl rfl rfl Try.underlying91 sz3 (by decide) (q := ⟨b12, 2, none⟩) rfl ?_; clear E a; intro a E
        refine Run.store (news := [.int .i64 (IntKind.i64.wrap (x1 + v22))]) (cs' := [_, _, _, _, _, _, _, _]) (hp' := [_, _, _, _, _, _]) 2 rfl E S rfl rfl rfl rfl rfl sz3 rfl rfl rfl rfl ?_; clear S; intro w S
        refine Run.nil ?_
        refine then_n ?_
        refine region_plain (n := 3) [(0, .p), (1, .p), (2, .p)] rfl rfl ?_
        refine Run.move rfl E rfl rfl rfl ?_; clear E a; intro a E
        refine Run.quo rfl E rfl rfl rfl rfl (by decide) (q := ((mk / 2 ^ (1 + 1) : Nat) : Int)) ((IntWalk.i64_quo _ _ (by omega)).trans (by omega)) ?_; clear E a; intro a E
        refine Run.assign rfl E rfl rfl rfl ?_; clear E a; intro a E
        refine Run.nil ?_
        refine blk_n ?_
        refine then_n ?_
        refine region_plain (n := 3) [(0, .p), (1, .p), (2, .p)] rfl rfl ?_
        refine Run.move rfl E rfl rfl rfl ?_; clear E a; intro a E
        refine Run.add rfl E rfl rfl rfl rfl (q := 3) (by kernel_rfl) ?_; clear E a; intro a E
        refine Run.assign rfl E rfl rfl rfl ?_; clear E a; intro a E
        refine Run.nil ?_
        refine then_n ?_
        replace E := E.setv 11 rfl (show Value.int .i64 (((mk / 2 ^ (1 + 1) : Nat) : Int)) = .int .i64 ((mk / 2 ^ (1 + 1) : Nat) : Int) by rfl)
        replace E := E.setv 13 rfl (show Value.int .i64 (3) = .int .i64 ((1 + 1 + 1 : Nat) : Int) from rfl)
        have S : St _ _ _ [_, _, _, _, _, _] := S.sel [0, 1, 2, 3, 4, 5] _ rfl rfl
        have S := S.drop1
        exact ⟨_, (by decide), (1 + 1), a20, e21, x0, (IntKind.i64.wrap (x1 + v22)), x2, x3, x4, x5, rfl, E.keeps [(2, _), (6, _), (7, _), (8, _), (9, _), (11, _), (12, _), (13, _)] ⟨rfl, rfl, rfl, rfl, rfl, rfl, rfl, rfl, trivial⟩, S, (by decide), (flS_on (x := x1) hfl hbit hr23 rfl), (fun x hx => by simp only [List.mem_cons, List.not_mem_nil, or_false] at hx; rcases hx with rfl | rfl | rfl | rfl | rfl | rfl <;> first | exact inr_wrap _ | exact hxr _ (by simp))⟩
      · skip
        refine Run.eqi rfl E rfl rfl rfl rfl (decide_eq_false (by omega)) ?_; clear E a; intro a E
        refine Run.nil ?_
        refine then_n ?_
        refine cond_F E rfl ?_
        refine wp_skip ?_
        refine then_n ?_
        refine region_plain (n := 3) [(0, .p), (1, .p), (2, .p)] rfl rfl ?_
        refine Run.move rfl E rfl rfl rfl ?_; clear E a; intro a E
        refine Run.quo rfl E rfl rfl rfl rfl (by decide) (q := ((mk / 2 ^ (1 + 1) : Nat) : Int)) ((IntWalk.i64_quo _ _ (by omega)).trans (by omega)) ?_; clear E a; intro a E
        refine Run.assign rfl E rfl rfl rfl ?_; clear E a; intro a E
        refine Run.nil ?_
        refine blk_n ?_
        refine then_n ?_
        refine region_plain (n := 3) [(0, .p), (1, .p), (2, .p)] rfl rfl ?_
        refine Run.move rfl E rfl rfl rfl ?_; clear E a; intro a E
        refine Run.add rfl E rfl rfl rfl rfl (q := 3) (by kernel_rfl) ?_; clear E a; intro a E
        refine Run.assign rfl E rfl rfl rfl ?_; clear E a; intro a E
        refine Run.nil ?_
        refine then_n ?_
        replace E := E.setv 11 rfl (show Value.int .i64 (((mk / 2 ^ (1 + 1) : Nat) : Int)) = .int .i64 ((mk / 2 ^ (1 + 1) : Nat) : Int) by rfl)
        replace E := E.setv 13 rfl (show Value.int .i64 (3) = .int .i64 ((1 + 1 + 1 : Nat) : Int) from rfl)
        exact ⟨_, (by decide), (1 + 1), p, q, x0, x1, x2, x3, x4, x5, rfl, E.keeps [(2, _), (6, _), (7, _), (8, _), (9, _), (11, _), (12, _), (13, _)] ⟨rfl, rfl, rfl, rfl, rfl, rfl, rfl, rfl, trivial⟩, S, (by decide), (flS_off hfl hbit), hxr⟩
    · skip
      refine Run.lss rfl E rfl rfl rfl rfl (b := true) (by decide) ?_; clear E a; intro a E
      refine Run.nil ?_
      refine then_n ?_
      refine cond_T E rfl ?_
      refine wp_skip ?_
      refine then_n ?_
      refine wp_seq ?_
      refine wp_block ?_
      refine wp_seq ?_
      refine wp_seq ?_
      refine region_plain (n := 3) [(0, .p), (1, .p), (2, .p)] rfl rfl ?_
      refine Run.move rfl E rfl rfl rfl ?_; clear E a; intro a E
      refine Run.rem rfl E rfl rfl rfl rfl (by decide) (q := ((mk / 2 ^ 2 % 2 : Nat) : Int)) ((IntWalk.rem_in _ _ (by omega)).trans rfl) ?_; clear E a; intro a E
      by_cases hbit : mk / 2 ^ 2 % 2 = 1
      · skip
        refine Run.eqi rfl E rfl rfl rfl rfl (decide_eq_true (by omega)) ?_; clear E a; intro a E
        refine Run.nil ?_
        refine then_n ?_
        refine cond_T E rfl ?_
        refine wp_seq ?_
        refine region_plain (n := 8) [(0, .l), (1, .e), (2, .p), (3, .p), (4, .p), (5, .e), (6, .l), (7, .p)] rfl rfl ?_
        refine Run.loadN (cs := [.slice A b.length c, .int .i64 p, .int .i64 (q : Int)]) rfl rfl E S rfl rfl rfl ag157 rfl (fun _ s => objAll s 0 rfl) ?_; clear E a; intro a E
        obtain ⟨a25, e26, v27, hr28⟩ : ∃ (x : Int) (y : Nat) (z : Int), morR b p q = (x, y, z) := ⟨_, _, _, rfl⟩
        have hc := rmore_walk (A := A) (c := c) (at_ := p) (e := q) (H1.bel S.belT) hb8 hl
        rw [hr28] at hc; dsimp only at hc
        refine Run.call (args := [.agg #[.slice A b.length c, .int .i64 p, .int .i64 (q : Int)]]) rfl rfl E rfl rfl Try.func108 nm108 rfl rfl (hc) ?_; rintro e_ w ⟨rfl, B_⟩; refine ⟨_, rfl, fun _ => B_, ?_⟩; clear E a; replace S := S.bel B_; intro a E
        clear B_
        refine Run.move rfl E rfl rfl rfl ?_; clear E a; intro a E
        refine Run.extract rfl E rfl rfl rfl rfl ?_; clear E a; intro a E
        refine Run.extract rfl E rfl rfl rfl rfl ?_; clear E a; intro a E
        refine Run.alloc rfl rfl E S rfl rfl z157 rfl ?_; clear E a S; intro b29 w a E S B_; clear B_
        refine Run.store (news := [.slice A b.length c, .int .i64 a25, .int .i64 (e26 : Int)]) (cs' := [_, _, _]) (hp' := [_, _, _, _, _, _]) 0 rfl E S rfl rfl rfl rfl rfl sz157 rfl rfl rfl rfl ?_; clear S; intro w S
        refine Run.assign rfl E rfl rfl rfl ?_; clear E a; intro a E
        refine Run.nil ?_
        refine then_n ?_
        refine wp_seq ?_
        refine region_plain (n := 2) [(0, .l), (1, .l)] rfl rfl ?_
        refine Run.loadN (cs := [.slice A b.length c, .int .i64 a25, .int .i64 (e26 : Int)]) rfl rfl E S rfl rfl rfl ag157 rfl (fun _ s => objAll s 0 rfl) ?_; clear E a; intro a E
        refine Run.store (news := [.slice A b.length c, .int .i64 a25, .int .i64 (e26 : Int)]) (cs' := [_, _, _]) (hp' := [_, _, _, _, _, _]) 1 rfl E S rfl rfl rfl rfl rfl sz157 rfl rfl rfl rfl ?_; clear S; intro w S
        refine Run.nil ?_
        refine then_n ?_
        refine region_plain (n := 10) [(0, .p), (1, .p), (2, .p), (3, .p), (4, .l), (5, .p), (6, .p), (7, .p), (8, .p), (9, .l)] rfl rfl ?_
        refine Run.move rfl E rfl rfl rfl ?_; clear E a; intro a E
        refine Run.move rfl E rfl rfl rfl ?_; clear E a; intro a E
        refine Run.fieldAddr rfl E rfl rfl rfl fo93_0 (rfl) ?_; clear E a; intro a E
        refine Run.indexArr rfl E rfl rfl rfl rfl Try.underlying91 sz3 (by decide) (q := ⟨b12, 3, none⟩) rfl ?_; clear E a; intro a E
        refine Run.load1 rfl rfl E S rfl rfl rfl one3 (fun _ s => s.objCell 2 3 rfl rfl) ?_; clear E a; intro a E
        refine Run.move rfl E rfl rfl rfl ?_; clear E a; intro a E
        refine Run.add rfl E rfl rfl rfl rfl rfl ?_; clear E a; intro a E
        refine Run.fieldAddr rfl E rfl rfl rfl fo93_0 (rfl) ?_; clear E a; intro a E
        refine Run.indexArr rfl E rfl rfl rfl rfl Try.underlying91 sz3 (by decide) (q := ⟨b12, 3, none⟩) rfl ?_; clear E a; intro a E
        refine Run.store (news := [.int .i64 (IntKind.i64.wrap (x2 + v27))]) (cs' := [_, _, _, _, _, _, _, _]) (hp' := [_, _, _, _, _, _]) 2 rfl E S rfl rfl rfl rfl rfl sz3 rfl rfl rfl rfl ?_; clear S; intro w S
        refine Run.nil ?_
        refine then_n ?_
        refine region_plain (n := 3) [(0, .p), (1, .p), (2, .p)] rfl rfl ?_
        refine Run.move rfl E rfl rfl rfl ?_; clear E a; intro a E
        refine Run.quo rfl E rfl rfl rfl rfl (by decide) (q := ((mk / 2 ^ (2 + 1) : Nat) : Int)) ((IntWalk.i64_quo _ _ (by omega)).trans (by omega)) ?_; clear E a; intro a E
        refine Run.assign rfl E rfl rfl rfl ?_; clear E a; intro a E
        refine Run.nil ?_
        refine blk_n ?_
        refine then_n ?_
        refine region_plain (n := 3) [(0, .p), (1, .p), (2, .p)] rfl rfl ?_
        refine Run.move rfl E rfl rfl rfl ?_; clear E a; intro a E
        refine Run.add rfl E rfl rfl rfl rfl (q := 4) (by kernel_rfl) ?_; clear E a; intro a E
        refine Run.assign rfl E rfl rfl rfl ?_; clear E a; intro a E
        refine Run.nil ?_
        refine then_n ?_
        replace E := E.setv 11 rfl (show Value.int .i64 (((mk / 2 ^ (2 + 1) : Nat) : Int)) = .int .i64 ((mk / 2 ^ (2 + 1) : Nat) : Int) by rfl)
        replace E := E.setv 13 rfl (show Value.int .i64 (4) = .int .i64 ((2 + 1 + 1 : Nat) : Int) from rfl)
        have S : St _ _ _ [_, _, _, _, _, _] := S.sel [0, 1, 2, 3, 4, 5] _ rfl rfl
        have S := S.drop1
        exact ⟨_, (by decide), (2 + 1), a25, e26, x0, x1, (IntKind.i64.wrap (x2 + v27)), x3, x4, x5, rfl, E.keeps [(2, _), (6, _), (7, _), (8, _), (9, _), (11, _), (12, _), (13, _)] ⟨rfl, rfl, rfl, rfl, rfl, rfl, rfl, rfl, trivial⟩, S, (by decide), (flS_on (x := x2) hfl hbit hr28 rfl), (fun x hx => by simp only [List.mem_cons, List.not_mem_nil, or_false] at hx; rcases hx with rfl | rfl | rfl | rfl | rfl | rfl <;> first | exact inr_wrap _ | exact hxr _ (by simp))⟩
      · skip
        refine Run.eqi rfl E rfl rfl rfl rfl (decide_eq_false (by omega)) ?_; clear E a; intro a E
        refine Run.nil ?_
        refine then_n ?_
        refine cond_F E rfl ?_
        refine wp_skip ?_
        refine then_n ?_
        refine region_plain (n := 3) [(0, .p), (1, .p), (2, .p)] rfl rfl ?_
        refine Run.move rfl E rfl rfl rfl ?_; clear E a; intro a E
        refine Run.quo rfl E rfl rfl rfl rfl (by decide) (q := ((mk / 2 ^ (2 + 1) : Nat) : Int)) ((IntWalk.i64_quo _ _ (by omega)).trans (by omega)) ?_; clear E a; intro a E
        refine Run.assign rfl E rfl rfl rfl ?_; clear E a; intro a E
        refine Run.nil ?_
        refine blk_n ?_
        refine then_n ?_
        refine region_plain (n := 3) [(0, .p), (1, .p), (2, .p)] rfl rfl ?_
        refine Run.move rfl E rfl rfl rfl ?_; clear E a; intro a E
        refine Run.add rfl E rfl rfl rfl rfl (q := 4) (by kernel_rfl) ?_; clear E a; intro a E
        refine Run.assign rfl E rfl rfl rfl ?_; clear E a; intro a E
        refine Run.nil ?_
        refine then_n ?_
        replace E := E.setv 11 rfl (show Value.int .i64 (((mk / 2 ^ (2 + 1) : Nat) : Int)) = .int .i64 ((mk / 2 ^ (2 + 1) : Nat) : Int) by rfl)
        replace E := E.setv 13 rfl (show Value.int .i64 (4) = .int .i64 ((2 + 1 + 1 : Nat) : Int) from rfl)
        exact ⟨_, (by decide), (2 + 1), p, q, x0, x1, x2, x3, x4, x5, rfl, E.keeps [(2, _), (6, _), (7, _), (8, _), (9, _), (11, _), (12, _), (13, _)] ⟨rfl, rfl, rfl, rfl, rfl, rfl, rfl, rfl, trivial⟩, S, (by decide), (flS_off hfl hbit), hxr⟩
    · skip
      refine Run.lss rfl E rfl rfl rfl rfl (b := true) (by decide) ?_; clear E a; intro a E
      refine Run.nil ?_
      refine then_n ?_
      refine cond_T E rfl ?_
      refine wp_skip ?_
      refine then_n ?_
      refine wp_seq ?_
      refine wp_block ?_
      refine wp_seq ?_
      refine wp_seq ?_
      refine region_plain (n := 3) [(0, .p), (1, .p), (2, .p)] rfl rfl ?_
      refine Run.move rfl E rfl rfl rfl ?_; clear E a; intro a E
      refine Run.rem rfl E rfl rfl rfl rfl (by decide) (q := ((mk / 2 ^ 3 % 2 : Nat) : Int)) ((IntWalk.rem_in _ _ (by omega)).trans rfl) ?_; clear E a; intro a E
      by_cases hbit : mk / 2 ^ 3 % 2 = 1
      · skip
        refine Run.eqi rfl E rfl rfl rfl rfl (decide_eq_true (by omega)) ?_; clear E a; intro a E
        refine Run.nil ?_
        refine then_n ?_
        refine cond_T E rfl ?_
        refine wp_seq ?_
        refine region_plain (n := 8) [(0, .l), (1, .e), (2, .p), (3, .p), (4, .p), (5, .e), (6, .l), (7, .p)] rfl rfl ?_
        refine Run.loadN (cs := [.slice A b.length c, .int .i64 p, .int .i64 (q : Int)]) rfl rfl E S rfl rfl rfl ag157 rfl (fun _ s => objAll s 0 rfl) ?_; clear E a; intro a E
        obtain ⟨a30, e31, v32, hr33⟩ : ∃ (x : Int) (y : Nat) (z : Int), morR b p q = (x, y, z) := ⟨_, _, _, rfl⟩
        have hc := rmore_walk (A := A) (c := c) (at_ := p) (e := q) (H1.bel S.belT) hb8 hl
        rw [hr33] at hc; dsimp only at hc
        refine Run.call (args := [.agg #[.slice A b.length c, .int .i64 p, .int .i64 (q : Int)]]) rfl rfl E rfl rfl Try.func108 nm108 rfl rfl (hc) ?_; rintro e_ w ⟨rfl, B_⟩; refine ⟨_, rfl, fun _ => B_, ?_⟩; clear E a; replace S := S.bel B_; intro a E
        clear B_
        refine Run.move rfl E rfl rfl rfl ?_; clear E a; intro a E
        refine Run.extract rfl E rfl rfl rfl rfl ?_; clear E a; intro a E
        refine Run.extract rfl E rfl rfl rfl rfl ?_; clear E a; intro a E
        refine Run.alloc rfl rfl E S rfl rfl z157 rfl ?_; clear E a S; intro b34 w a E S B_; clear B_
        refine Run.store (news := [.slice A b.length c, .int .i64 a30, .int .i64 (e31 : Int)]) (cs' := [_, _, _]) (hp' := [_, _, _, _, _, _]) 0 rfl E S rfl rfl rfl rfl rfl sz157 rfl rfl rfl rfl ?_; clear S; intro w S
        refine Run.assign rfl E rfl rfl rfl ?_; clear E a; intro a E
        refine Run.nil ?_
        refine then_n ?_
        refine wp_seq ?_
        refine region_plain (n := 2) [(0, .l), (1, .l)] rfl rfl ?_
        refine Run.loadN (cs := [.slice A b.length c, .int .i64 a30, .int .i64 (e31 : Int)]) rfl rfl E S rfl rfl rfl ag157 rfl (fun _ s => objAll s 0 rfl) ?_; clear E a; intro a E
        refine Run.store (news := [.slice A b.length c, .int .i64 a30, .int .i64 (e31 : Int)]) (cs' := [_, _, _]) (hp' := [_, _, _, _, _, _]) 1 rfl E S rfl rfl rfl rfl rfl sz157 rfl rfl rfl rfl ?_; clear S; intro w S
        refine Run.nil ?_
        refine then_n ?_
        refine region_plain (n := 10) [(0, .p), (1, .p), (2, .p), (3, .p), (4, .l), (5, .p), (6, .p), (7, .p), (8, .p), (9, .l)] rfl rfl ?_
        refine Run.move rfl E rfl rfl rfl ?_; clear E a; intro a E
        refine Run.move rfl E rfl rfl rfl ?_; clear E a; intro a E
        refine Run.fieldAddr rfl E rfl rfl rfl fo93_0 (rfl) ?_; clear E a; intro a E
        refine Run.indexArr rfl E rfl rfl rfl rfl Try.underlying91 sz3 (by decide) (q := ⟨b12, 4, none⟩) rfl ?_; clear E a; intro a E
        refine Run.load1 rfl rfl E S rfl rfl rfl one3 (fun _ s => s.objCell 2 4 rfl rfl) ?_; clear E a; intro a E
        refine Run.move rfl E rfl rfl rfl ?_; clear E a; intro a E
        refine Run.add rfl E rfl rfl rfl rfl rfl ?_; clear E a; intro a E
        refine Run.fieldAddr rfl E rfl rfl rfl fo93_0 (rfl) ?_; clear E a; intro a E
        refine Run.indexArr rfl E rfl rfl rfl rfl Try.underlying91 sz3 (by decide) (q := ⟨b12, 4, none⟩) rfl ?_; clear E a; intro a E
        refine Run.store (news := [.int .i64 (IntKind.i64.wrap (x3 + v32))]) (cs' := [_, _, _, _, _, _, _, _]) (hp' := [_, _, _, _, _, _]) 2 rfl E S rfl rfl rfl rfl rfl sz3 rfl rfl rfl rfl ?_; clear S; intro w S
        refine Run.nil ?_
        refine then_n ?_
        refine region_plain (n := 3) [(0, .p), (1, .p), (2, .p)] rfl rfl ?_
        refine Run.move rfl E rfl rfl rfl ?_; clear E a; intro a E
        refine Run.quo rfl E rfl rfl rfl rfl (by decide) (q := ((mk / 2 ^ (3 + 1) : Nat) : Int)) ((IntWalk.i64_quo _ _ (by omega)).trans (by omega)) ?_; clear E a; intro a E
        refine Run.assign rfl E rfl rfl rfl ?_; clear E a; intro a E
        refine Run.nil ?_
        refine blk_n ?_
        refine then_n ?_
        refine region_plain (n := 3) [(0, .p), (1, .p), (2, .p)] rfl rfl ?_
        refine Run.move rfl E rfl rfl rfl ?_; clear E a; intro a E
        refine Run.add rfl E rfl rfl rfl rfl (q := 5) (by kernel_rfl) ?_; clear E a; intro a E
        refine Run.assign rfl E rfl rfl rfl ?_; clear E a; intro a E
        refine Run.nil ?_
        refine then_n ?_
        replace E := E.setv 11 rfl (show Value.int .i64 (((mk / 2 ^ (3 + 1) : Nat) : Int)) = .int .i64 ((mk / 2 ^ (3 + 1) : Nat) : Int) by rfl)
        replace E := E.setv 13 rfl (show Value.int .i64 (5) = .int .i64 ((3 + 1 + 1 : Nat) : Int) from rfl)
        have S : St _ _ _ [_, _, _, _, _, _] := S.sel [0, 1, 2, 3, 4, 5] _ rfl rfl
        have S := S.drop1
        exact ⟨_, (by decide), (3 + 1), a30, e31, x0, x1, x2, (IntKind.i64.wrap (x3 + v32)), x4, x5, rfl, E.keeps [(2, _), (6, _), (7, _), (8, _), (9, _), (11, _), (12, _), (13, _)] ⟨rfl, rfl, rfl, rfl, rfl, rfl, rfl, rfl, trivial⟩, S, (by decide), (flS_on (x := x3) hfl hbit hr33 rfl), (fun x hx => by simp only [List.mem_cons, List.not_mem_nil, or_false] at hx; rcases hx with rfl | rfl | rfl | rfl | rfl | rfl <;> first | exact inr_wrap _ | exact hxr _ (by simp))⟩
      · skip
        refine Run.eqi rfl E rfl rfl rfl rfl (decide_eq_false (by omega)) ?_; clear E a; intro a E
        refine Run.nil ?_
        refine then_n ?_
        refine cond_F E rfl ?_
        refine wp_skip ?_
        refine then_n ?_
        refine region_plain (n := 3) [(0, .p), (1, .p), (2, .p)] rfl rfl ?_
        refine Run.move rfl E rfl rfl rfl ?_; clear E a; intro a E
        refine Run.quo rfl E rfl rfl rfl rfl (by decide) (q := ((mk / 2 ^ (3 + 1) : Nat) : Int)) ((IntWalk.i64_quo _ _ (by omega)).trans (by omega)) ?_; clear E a; intro a E
        refine Run.assign rfl E rfl rfl rfl ?_; clear E a; intro a E
        refine Run.nil ?_
        refine blk_n ?_
        refine then_n ?_
        refine region_plain (n := 3) [(0, .p), (1, .p), (2, .p)] rfl rfl ?_
        refine Run.move rfl E rfl rfl rfl ?_; clear E a; intro a E
        refine Run.add rfl E rfl rfl rfl rfl (q := 5) (by kernel_rfl) ?_; clear E a; intro a E
        refine Run.assign rfl E rfl rfl rfl ?_; clear E a; intro a E
        refine Run.nil ?_
        refine then_n ?_
        replace E := E.setv 11 rfl (show Value.int .i64 (((mk / 2 ^ (3 + 1) : Nat) : Int)) = .int .i64 ((mk / 2 ^ (3 + 1) : Nat) : Int) by rfl)
        replace E := E.setv 13 rfl (show Value.int .i64 (5) = .int .i64 ((3 + 1 + 1 : Nat) : Int) from rfl)
        exact ⟨_, (by decide), (3 + 1), p, q, x0, x1, x2, x3, x4, x5, rfl, E.keeps [(2, _), (6, _), (7, _), (8, _), (9, _), (11, _), (12, _), (13, _)] ⟨rfl, rfl, rfl, rfl, rfl, rfl, rfl, rfl, trivial⟩, S, (by decide), (flS_off hfl hbit), hxr⟩
    · skip
      refine Run.lss rfl E rfl rfl rfl rfl (b := true) (by decide) ?_; clear E a; intro a E
      refine Run.nil ?_
      refine then_n ?_
      refine cond_T E rfl ?_
      refine wp_skip ?_
      refine then_n ?_
      refine wp_seq ?_
      refine wp_block ?_
      refine wp_seq ?_
      refine wp_seq ?_
      refine region_plain (n := 3) [(0, .p), (1, .p), (2, .p)] rfl rfl ?_
      refine Run.move rfl E rfl rfl rfl ?_; clear E a; intro a E
      refine Run.rem rfl E rfl rfl rfl rfl (by decide) (q := ((mk / 2 ^ 4 % 2 : Nat) : Int)) ((IntWalk.rem_in _ _ (by omega)).trans rfl) ?_; clear E a; intro a E
      by_cases hbit : mk / 2 ^ 4 % 2 = 1
      · skip
        refine Run.eqi rfl E rfl rfl rfl rfl (decide_eq_true (by omega)) ?_; clear E a; intro a E
        refine Run.nil ?_
        refine then_n ?_
        refine cond_T E rfl ?_
        refine wp_seq ?_
        refine region_plain (n := 8) [(0, .l), (1, .e), (2, .p), (3, .p), (4, .p), (5, .e), (6, .l), (7, .p)] rfl rfl ?_
        refine Run.loadN (cs := [.slice A b.length c, .int .i64 p, .int .i64 (q : Int)]) rfl rfl E S rfl rfl rfl ag157 rfl (fun _ s => objAll s 0 rfl) ?_; clear E a; intro a E
        obtain ⟨a35, e36, v37, hr38⟩ : ∃ (x : Int) (y : Nat) (z : Int), morR b p q = (x, y, z) := ⟨_, _, _, rfl⟩
        have hc := rmore_walk (A := A) (c := c) (at_ := p) (e := q) (H1.bel S.belT) hb8 hl
        rw [hr38] at hc; dsimp only at hc
        refine Run.call (args := [.agg #[.slice A b.length c, .int .i64 p, .int .i64 (q : Int)]]) rfl rfl E rfl rfl Try.func108 nm108 rfl rfl (hc) ?_; rintro e_ w ⟨rfl, B_⟩; refine ⟨_, rfl, fun _ => B_, ?_⟩; clear E a; replace S := S.bel B_; intro a E
        clear B_
        refine Run.move rfl E rfl rfl rfl ?_; clear E a; intro a E
        refine Run.extract rfl E rfl rfl rfl rfl ?_; clear E a; intro a E
        refine Run.extract rfl E rfl rfl rfl rfl ?_; clear E a; intro a E
        refine Run.alloc rfl rfl E S rfl rfl z157 rfl ?_; clear E a S; intro b39 w a E S B_; clear B_
        refine Run.store (news := [.slice A b.length c, .int .i64 a35, .int .i64 (e36 : Int)]) (cs' := [_, _, _]) (hp' := [_, _, _, _, _, _]) 0 rfl E S rfl rfl rfl rfl rfl sz157 rfl rfl rfl rfl ?_; clear S; intro w S
        refine Run.assign rfl E rfl rfl rfl ?_; clear E a; intro a E
        refine Run.nil ?_
        refine then_n ?_
        refine wp_seq ?_
        refine region_plain (n := 2) [(0, .l), (1, .l)] rfl rfl ?_
        refine Run.loadN (cs := [.slice A b.length c, .int .i64 a35, .int .i64 (e36 : Int)]) rfl rfl E S rfl rfl rfl ag157 rfl (fun _ s => objAll s 0 rfl) ?_; clear E a; intro a E
        refine Run.store (news := [.slice A b.length c, .int .i64 a35, .int .i64 (e36 : Int)]) (cs' := [_, _, _]) (hp' := [_, _, _, _, _, _]) 1 rfl E S rfl rfl rfl rfl rfl sz157 rfl rfl rfl rfl ?_; clear S; intro w S
        refine Run.nil ?_
        refine then_n ?_
        refine region_plain (n := 10) [(0, .p), (1, .p), (2, .p), (3, .p), (4, .l), (5, .p), (6, .p), (7, .p), (8, .p), (9, .l)] rfl rfl ?_
        refine Run.move rfl E rfl rfl rfl ?_; clear E a; intro a E
        refine Run.move rfl E rfl rfl rfl ?_; clear E a; intro a E
        refine Run.fieldAddr rfl E rfl rfl rfl fo93_0 (rfl) ?_; clear E a; intro a E
        refine Run.indexArr rfl E rfl rfl rfl rfl Try.underlying91 sz3 (by decide) (q := ⟨b12, 5, none⟩) rfl ?_; clear E a; intro a E
        refine Run.load1 rfl rfl E S rfl rfl rfl one3 (fun _ s => s.objCell 2 5 rfl rfl) ?_; clear E a; intro a E
        refine Run.move rfl E rfl rfl rfl ?_; clear E a; intro a E
        refine Run.add rfl E rfl rfl rfl rfl rfl ?_; clear E a; intro a E
        refine Run.fieldAddr rfl E rfl rfl rfl fo93_0 (rfl) ?_; clear E a; intro a E
        refine Run.indexArr rfl E rfl rfl rfl rfl Try.underlying91 sz3 (by decide) (q := ⟨b12, 5, none⟩) rfl ?_; clear E a; intro a E
        refine Run.store (news := [.int .i64 (IntKind.i64.wrap (x4 + v37))]) (cs' := [_, _, _, _, _, _, _, _]) (hp' := [_, _, _, _, _, _]) 2 rfl E S rfl rfl rfl rfl rfl sz3 rfl rfl rfl rfl ?_; clear S; intro w S
        refine Run.nil ?_
        refine then_n ?_
        refine region_plain (n := 3) [(0, .p), (1, .p), (2, .p)] rfl rfl ?_
        refine Run.move rfl E rfl rfl rfl ?_; clear E a; intro a E
        refine Run.quo rfl E rfl rfl rfl rfl (by decide) (q := ((mk / 2 ^ (4 + 1) : Nat) : Int)) ((IntWalk.i64_quo _ _ (by omega)).trans (by omega)) ?_; clear E a; intro a E
        refine Run.assign rfl E rfl rfl rfl ?_; clear E a; intro a E
        refine Run.nil ?_
        refine blk_n ?_
        refine then_n ?_
        refine region_plain (n := 3) [(0, .p), (1, .p), (2, .p)] rfl rfl ?_
        refine Run.move rfl E rfl rfl rfl ?_; clear E a; intro a E
        refine Run.add rfl E rfl rfl rfl rfl (q := 6) (by kernel_rfl) ?_; clear E a; intro a E
        refine Run.assign rfl E rfl rfl rfl ?_; clear E a; intro a E
        refine Run.nil ?_
        refine then_n ?_
        replace E := E.setv 11 rfl (show Value.int .i64 (((mk / 2 ^ (4 + 1) : Nat) : Int)) = .int .i64 ((mk / 2 ^ (4 + 1) : Nat) : Int) by rfl)
        replace E := E.setv 13 rfl (show Value.int .i64 (6) = .int .i64 ((4 + 1 + 1 : Nat) : Int) from rfl)
        have S : St _ _ _ [_, _, _, _, _, _] := S.sel [0, 1, 2, 3, 4, 5] _ rfl rfl
        have S := S.drop1
        exact ⟨_, (by decide), (4 + 1), a35, e36, x0, x1, x2, x3, (IntKind.i64.wrap (x4 + v37)), x5, rfl, E.keeps [(2, _), (6, _), (7, _), (8, _), (9, _), (11, _), (12, _), (13, _)] ⟨rfl, rfl, rfl, rfl, rfl, rfl, rfl, rfl, trivial⟩, S, (by decide), (flS_on (x := x4) hfl hbit hr38 rfl), (fun x hx => by simp only [List.mem_cons, List.not_mem_nil, or_false] at hx; rcases hx with rfl | rfl | rfl | rfl | rfl | rfl <;> first | exact inr_wrap _ | exact hxr _ (by simp))⟩
      · skip
        refine Run.eqi rfl E rfl rfl rfl rfl (decide_eq_false (by omega)) ?_; clear E a; intro a E
        refine Run.nil ?_
        refine then_n ?_
        refine cond_F E rfl ?_
        refine wp_skip ?_
        refine then_n ?_
        refine region_plain (n := 3) [(0, .p), (1, .p), (2, .p)] rfl rfl ?_
        refine Run.move rfl E rfl rfl rfl ?_; clear E a; intro a E
        refine Run.quo rfl E rfl rfl rfl rfl (by decide) (q := ((mk / 2 ^ (4 + 1) : Nat) : Int)) ((IntWalk.i64_quo _ _ (by omega)).trans (by omega)) ?_; clear E a; intro a E
        refine Run.assign rfl E rfl rfl rfl ?_; clear E a; intro a E
        refine Run.nil ?_
        refine blk_n ?_
        refine then_n ?_
        refine region_plain (n := 3) [(0, .p), (1, .p), (2, .p)] rfl rfl ?_
        refine Run.move rfl E rfl rfl rfl ?_; clear E a; intro a E
        refine Run.add rfl E rfl rfl rfl rfl (q := 6) (by kernel_rfl) ?_; clear E a; intro a E
        refine Run.assign rfl E rfl rfl rfl ?_; clear E a; intro a E
        refine Run.nil ?_
        refine then_n ?_
        replace E := E.setv 11 rfl (show Value.int .i64 (((mk / 2 ^ (4 + 1) : Nat) : Int)) = .int .i64 ((mk / 2 ^ (4 + 1) : Nat) : Int) by rfl)
        replace E := E.setv 13 rfl (show Value.int .i64 (6) = .int .i64 ((4 + 1 + 1 : Nat) : Int) from rfl)
        exact ⟨_, (by decide), (4 + 1), p, q, x0, x1, x2, x3, x4, x5, rfl, E.keeps [(2, _), (6, _), (7, _), (8, _), (9, _), (11, _), (12, _), (13, _)] ⟨rfl, rfl, rfl, rfl, rfl, rfl, rfl, rfl, trivial⟩, S, (by decide), (flS_off hfl hbit), hxr⟩
    · skip
      refine Run.lss rfl E rfl rfl rfl rfl (b := true) (by decide) ?_; clear E a; intro a E
      refine Run.nil ?_
      refine then_n ?_
      refine cond_T E rfl ?_
      refine wp_skip ?_
      refine then_n ?_
      refine wp_seq ?_
      refine wp_block ?_
      refine wp_seq ?_
      refine wp_seq ?_
      refine region_plain (n := 3) [(0, .p), (1, .p), (2, .p)] rfl rfl ?_
      refine Run.move rfl E rfl rfl rfl ?_; clear E a; intro a E
      refine Run.rem rfl E rfl rfl rfl rfl (by decide) (q := ((mk / 2 ^ 5 % 2 : Nat) : Int)) ((IntWalk.rem_in _ _ (by omega)).trans rfl) ?_; clear E a; intro a E
      by_cases hbit : mk / 2 ^ 5 % 2 = 1
      · skip
        refine Run.eqi rfl E rfl rfl rfl rfl (decide_eq_true (by omega)) ?_; clear E a; intro a E
        refine Run.nil ?_
        refine then_n ?_
        refine cond_T E rfl ?_
        refine wp_seq ?_
        refine region_plain (n := 8) [(0, .l), (1, .e), (2, .p), (3, .p), (4, .p), (5, .e), (6, .l), (7, .p)] rfl rfl ?_
        refine Run.loadN (cs := [.slice A b.length c, .int .i64 p, .int .i64 (q : Int)]) rfl rfl E S rfl rfl rfl ag157 rfl (fun _ s => objAll s 0 rfl) ?_; clear E a; intro a E
        obtain ⟨a40, e41, v42, hr43⟩ : ∃ (x : Int) (y : Nat) (z : Int), morR b p q = (x, y, z) := ⟨_, _, _, rfl⟩
        have hc := rmore_walk (A := A) (c := c) (at_ := p) (e := q) (H1.bel S.belT) hb8 hl
        rw [hr43] at hc; dsimp only at hc
        refine Run.call (args := [.agg #[.slice A b.length c, .int .i64 p, .int .i64 (q : Int)]]) rfl rfl E rfl rfl Try.func108 nm108 rfl rfl (hc) ?_; rintro e_ w ⟨rfl, B_⟩; refine ⟨_, rfl, fun _ => B_, ?_⟩; clear E a; replace S := S.bel B_; intro a E
        clear B_
        refine Run.move rfl E rfl rfl rfl ?_; clear E a; intro a E
        refine Run.extract rfl E rfl rfl rfl rfl ?_; clear E a; intro a E
        refine Run.extract rfl E rfl rfl rfl rfl ?_; clear E a; intro a E
        refine Run.alloc rfl rfl E S rfl rfl z157 rfl ?_; clear E a S; intro b44 w a E S B_; clear B_
        refine Run.store (news := [.slice A b.length c, .int .i64 a40, .int .i64 (e41 : Int)]) (cs' := [_, _, _]) (hp' := [_, _, _, _, _, _]) 0 rfl E S rfl rfl rfl rfl rfl sz157 rfl rfl rfl rfl ?_; clear S; intro w S
        refine Run.assign rfl E rfl rfl rfl ?_; clear E a; intro a E
        refine Run.nil ?_
        refine then_n ?_
        refine wp_seq ?_
        refine region_plain (n := 2) [(0, .l), (1, .l)] rfl rfl ?_
        refine Run.loadN (cs := [.slice A b.length c, .int .i64 a40, .int .i64 (e41 : Int)]) rfl rfl E S rfl rfl rfl ag157 rfl (fun _ s => objAll s 0 rfl) ?_; clear E a; intro a E
        refine Run.store (news := [.slice A b.length c, .int .i64 a40, .int .i64 (e41 : Int)]) (cs' := [_, _, _]) (hp' := [_, _, _, _, _, _]) 1 rfl E S rfl rfl rfl rfl rfl sz157 rfl rfl rfl rfl ?_; clear S; intro w S
        refine Run.nil ?_
        refine then_n ?_
        refine region_plain (n := 10) [(0, .p), (1, .p), (2, .p), (3, .p), (4, .l), (5, .p), (6, .p), (7, .p), (8, .p), (9, .l)] rfl rfl ?_
        refine Run.move rfl E rfl rfl rfl ?_; clear E a; intro a E
        refine Run.move rfl E rfl rfl rfl ?_; clear E a; intro a E
        refine Run.fieldAddr rfl E rfl rfl rfl fo93_0 (rfl) ?_; clear E a; intro a E
        refine Run.indexArr rfl E rfl rfl rfl rfl Try.underlying91 sz3 (by decide) (q := ⟨b12, 6, none⟩) rfl ?_; clear E a; intro a E
        refine Run.load1 rfl rfl E S rfl rfl rfl one3 (fun _ s => s.objCell 2 6 rfl rfl) ?_; clear E a; intro a E
        refine Run.move rfl E rfl rfl rfl ?_; clear E a; intro a E
        refine Run.add rfl E rfl rfl rfl rfl rfl ?_; clear E a; intro a E
        refine Run.fieldAddr rfl E rfl rfl rfl fo93_0 (rfl) ?_; clear E a; intro a E
        refine Run.indexArr rfl E rfl rfl rfl rfl Try.underlying91 sz3 (by decide) (q := ⟨b12, 6, none⟩) rfl ?_; clear E a; intro a E
        refine Run.store (news := [.int .i64 (IntKind.i64.wrap (x5 + v42))]) (cs' := [_, _, _, _, _, _, _, _]) (hp' := [_, _, _, _, _, _]) 2 rfl E S rfl rfl rfl rfl rfl sz3 rfl rfl rfl rfl ?_; clear S; intro w S
        refine Run.nil ?_
        refine then_n ?_
        refine region_plain (n := 3) [(0, .p), (1, .p), (2, .p)] rfl rfl ?_
        refine Run.move rfl E rfl rfl rfl ?_; clear E a; intro a E
        refine Run.quo rfl E rfl rfl rfl rfl (by decide) (q := ((mk / 2 ^ (5 + 1) : Nat) : Int)) ((IntWalk.i64_quo _ _ (by omega)).trans (by omega)) ?_; clear E a; intro a E
        refine Run.assign rfl E rfl rfl rfl ?_; clear E a; intro a E
        refine Run.nil ?_
        refine blk_n ?_
        refine then_n ?_
        refine region_plain (n := 3) [(0, .p), (1, .p), (2, .p)] rfl rfl ?_
        refine Run.move rfl E rfl rfl rfl ?_; clear E a; intro a E
        refine Run.add rfl E rfl rfl rfl rfl (q := 7) (by kernel_rfl) ?_; clear E a; intro a E
        refine Run.assign rfl E rfl rfl rfl ?_; clear E a; intro a E
        refine Run.nil ?_
        refine then_n ?_
        replace E := E.setv 11 rfl (show Value.int .i64 (((mk / 2 ^ (5 + 1) : Nat) : Int)) = .int .i64 ((mk / 2 ^ (5 + 1) : Nat) : Int) by rfl)
        replace E := E.setv 13 rfl (show Value.int .i64 (7) = .int .i64 ((5 + 1 + 1 : Nat) : Int) from rfl)
        have S : St _ _ _ [_, _, _, _, _, _] := S.sel [0, 1, 2, 3, 4, 5] _ rfl rfl
        have S := S.drop1
        exact ⟨_, (by decide), (5 + 1), a40, e41, x0, x1, x2, x3, x4, (IntKind.i64.wrap (x5 + v42)), rfl, E.keeps [(2, _), (6, _), (7, _), (8, _), (9, _), (11, _), (12, _), (13, _)] ⟨rfl, rfl, rfl, rfl, rfl, rfl, rfl, rfl, trivial⟩, S, (by decide), (flS_on (x := x5) hfl hbit hr43 rfl), (fun x hx => by simp only [List.mem_cons, List.not_mem_nil, or_false] at hx; rcases hx with rfl | rfl | rfl | rfl | rfl | rfl <;> first | exact inr_wrap _ | exact hxr _ (by simp))⟩
      · skip
        refine Run.eqi rfl E rfl rfl rfl rfl (decide_eq_false (by omega)) ?_; clear E a; intro a E
        refine Run.nil ?_
        refine then_n ?_
        refine cond_F E rfl ?_
        refine wp_skip ?_
        refine then_n ?_
        refine region_plain (n := 3) [(0, .p), (1, .p), (2, .p)] rfl rfl ?_
        refine Run.move rfl E rfl rfl rfl ?_; clear E a; intro a E
        refine Run.quo rfl E rfl rfl rfl rfl (by decide) (q := ((mk / 2 ^ (5 + 1) : Nat) : Int)) ((IntWalk.i64_quo _ _ (by omega)).trans (by omega)) ?_; clear E a; intro a E
        refine Run.assign rfl E rfl rfl rfl ?_; clear E a; intro a E
        refine Run.nil ?_
        refine blk_n ?_
        refine then_n ?_
        refine region_plain (n := 3) [(0, .p), (1, .p), (2, .p)] rfl rfl ?_
        refine Run.move rfl E rfl rfl rfl ?_; clear E a; intro a E
        refine Run.add rfl E rfl rfl rfl rfl (q := 7) (by kernel_rfl) ?_; clear E a; intro a E
        refine Run.assign rfl E rfl rfl rfl ?_; clear E a; intro a E
        refine Run.nil ?_
        refine then_n ?_
        replace E := E.setv 11 rfl (show Value.int .i64 (((mk / 2 ^ (5 + 1) : Nat) : Int)) = .int .i64 ((mk / 2 ^ (5 + 1) : Nat) : Int) by rfl)
        replace E := E.setv 13 rfl (show Value.int .i64 (7) = .int .i64 ((5 + 1 + 1 : Nat) : Int) from rfl)
        exact ⟨_, (by decide), (5 + 1), p, q, x0, x1, x2, x3, x4, x5, rfl, E.keeps [(2, _), (6, _), (7, _), (8, _), (9, _), (11, _), (12, _), (13, _)] ⟨rfl, rfl, rfl, rfl, rfl, rfl, rfl, rfl, trivial⟩, S, (by decide), (flS_off hfl hbit), hxr⟩
  · skip
    obtain rfl : i = 6 := by omega
    refine Run.lss rfl E rfl rfl rfl rfl (b := false) (by decide) ?_; clear E a; intro a E
    refine Run.nil ?_
    refine then_n ?_
    refine cond_F E rfl ?_
    refine wp_exit ?_
    refine then_x ?_
    refine then_x ?_
    refine blk_x ?_
    refine then_n ?_
    refine wp_seq ?_
    refine wp_seq ?_
    refine region_plain (n := 7) [(0, .p), (1, .p), (2, .p), (3, .p), (4, .l), (5, .p), (6, .p)] rfl rfl ?_
    refine Run.move rfl E rfl rfl rfl ?_; clear E a; intro a E
    by_cases h64 : mk < 64
    · skip
      refine Run.eqi rfl E rfl rfl rfl rfl (decide_eq_false (by omega)) ?_; clear E a; intro a E
      refine Run.move rfl E rfl rfl rfl ?_; clear E a; intro a E
      refine Run.off rfl E rfl rfl ?_; clear E a; intro a E
      refine Run.off rfl E rfl rfl ?_; clear E a; intro a E
      refine Run.off rfl E rfl rfl ?_; clear E a; intro a E
      refine Run.pickF rfl E rfl rfl rfl rfl ?_; clear E a; intro a E
      refine Run.nil ?_
      refine then_n ?_
      refine cond_F E rfl ?_
      refine wp_skip ?_
      refine then_n ?_
      refine wp_seq ?_
      refine region_tree (n := 10) (.one 1 .p (.one 3 .p (.one 5 .p (.one 0 .t (.alt 2 (.one 4 .p (.alt 6 (.one 7 .l (.one 8 .p (.one 9 .p .done))) (.altl 7 (.one 8 .p (.one 6 .t (.one 9 .p .done))) .none))) (.alt 6 (.alt 2 (.one 4 .p (.one 7 .l (.one 8 .p (.one 9 .p .done)))) (.altl 7 (.one 2 .t (.one 4 .p (.one 8 .p (.one 9 .p .done)))) .none)) (.altl 7 (.one 2 .t (.one 4 .p (.one 8 .p (.one 6 .t (.one 9 .p .done))))) .none))))))) [0, 0, 2, 0, 14, 0, 32, 1, 159, 511] S mixed rfl rfl (by kernel_rfl) (fun _ _ _ _ _ h => h) ?_; clear S; intro w S B_; clear B_
      refine RunT.one ?_
      refine Run.fieldAddr rfl E rfl rfl rfl fo157_1 (rfl) ?_; clear E a; intro a E
      refine RunT.end ?_
      refine RunT.one ?_
      refine Run.move rfl E rfl rfl rfl ?_; clear E a; intro a E
      refine RunT.end ?_
      refine RunT.one ?_
      refine Run.fieldAddr rfl E rfl rfl rfl fo157_2 (rfl) ?_; clear E a; intro a E
      refine RunT.end ?_
      refine RunT.one ?_
      refine Run.loadN (cs := [.int .i64 v6, .int .i64 x0, .int .i64 x1, .int .i64 x2, .int .i64 x3, .int .i64 x4, .int .i64 x5, .slice A13 s.caps.length c14]) rfl rfl E S rfl rfl rfl ag93 rfl (fun _ s => objAll s 1 rfl) ?_; clear E a; intro a E
      refine RunT.end ?_
      refine RunT.alt ?_ ?_
      · skip
        refine Run.load1 rfl rfl E S rfl rfl rfl one3 (fun _ s => s.objCell 0 1 rfl rfl) ?_; clear E a; intro a E
        refine RunT.end ?_
        refine RunT.one ?_
        refine Run.sub rfl E rfl rfl rfl rfl rfl ?_; clear E a; intro a E
        refine RunT.end ?_
        refine RunT.alt ?_ ?_
        · skip
          refine Run.load1 rfl rfl E S rfl rfl rfl one3 (fun _ s => s.objCell 0 2 rfl rfl) ?_; clear E a; intro a E
          refine RunT.end ?_
          refine RunT.one ?_
          refine Run.store (news := [.int .i64 v6, .int .i64 x0, .int .i64 x1, .int .i64 x2, .int .i64 x3, .int .i64 x4, .int .i64 x5, .slice A13 s.caps.length c14]) (cs' := [_, _, _, _, _, _, _, _]) (hp' := [_, _, _, _, _]) 3 rfl E S rfl rfl rfl rfl rfl sz93 rfl rfl rfl rfl ?_; clear S; intro w S
          refine RunT.end ?_
          refine RunT.one ?_
          refine Run.assign rfl E rfl rfl rfl ?_; clear E a; intro a E
          refine RunT.end ?_
          refine RunT.one ?_
          refine Run.assign rfl E rfl rfl rfl ?_; clear E a; intro a E
          refine RunT.end ?_
          refine RunT.done ?_
          refine then_n ?_
          refine wp_ret ?_
          have hrd : rdF s b at_ = (p, q, ⟨v6, x0, x1, x2, x3, x4, x5, s.caps⟩) := rdF_of hr7 hr11 hfl (by rw [if_pos h64])
          refine retN E (vs := [.agg #[.int .i64 v6, .int .i64 x0, .int .i64 x1, .int .i64 x2, .int .i64 x3, .int .i64 x4, .int .i64 x5, .slice A13 s.caps.length c14], .int .i64 (IntKind.i64.wrap (p - at_)), .int .i64 (q : Int)]) Try.results67 (.cell (E.slot _ _ rfl) (run_loadVarAgg ag93 rfl (objAll S 3 rfl)) (.tmp (E.slot _ _ rfl) (.tmp (E.slot _ _ rfl) .nil))) rfl ⟨A13, c14, ?_, ?_⟩
          · rw [hrd]; dsimp only; rfl
          have S : St _ _ _ [_, _, _, _, _] := S.sel [0, 1, 3, 4, 2] _ rfl rfl
          have S := S.drop1.drop1.drop1.drop1
          · rw [hrd]; dsimp only; exact S
        · skip
          refine RunT.altl ?_ ?_
          · skip
            refine Run.store (news := [.int .i64 v6, .int .i64 x0, .int .i64 x1, .int .i64 x2, .int .i64 x3, .int .i64 x4, .int .i64 x5, .slice A13 s.caps.length c14]) (cs' := [_, _, _, _, _, _, _, _]) (hp' := [_, _, _, _, _]) 3 rfl E S rfl rfl rfl rfl rfl sz93 rfl rfl rfl rfl ?_; clear S; intro w S
            refine RunT.end ?_
            refine RunT.one ?_
            refine Run.assign rfl E rfl rfl rfl ?_; clear E a; intro a E
            refine RunT.end ?_
            refine RunT.one ?_
            refine Run.load1 rfl rfl E S rfl rfl rfl one3 (fun _ s => s.objCell 0 2 rfl rfl) ?_; clear E a; intro a E
            refine RunT.end ?_
            refine RunT.one ?_
            refine Run.assign rfl E rfl rfl rfl ?_; clear E a; intro a E
            refine RunT.end ?_
            refine RunT.done ?_
            refine then_n ?_
            refine wp_ret ?_
            have hrd : rdF s b at_ = (p, q, ⟨v6, x0, x1, x2, x3, x4, x5, s.caps⟩) := rdF_of hr7 hr11 hfl (by rw [if_pos h64])
            refine retN E (vs := [.agg #[.int .i64 v6, .int .i64 x0, .int .i64 x1, .int .i64 x2, .int .i64 x3, .int .i64 x4, .int .i64 x5, .slice A13 s.caps.length c14], .int .i64 (IntKind.i64.wrap (p - at_)), .int .i64 (q : Int)]) Try.results67 (.cell (E.slot _ _ rfl) (run_loadVarAgg ag93 rfl (objAll S 3 rfl)) (.tmp (E.slot _ _ rfl) (.tmp (E.slot _ _ rfl) .nil))) rfl ⟨A13, c14, ?_, ?_⟩
            · rw [hrd]; dsimp only; rfl
            have S : St _ _ _ [_, _, _, _, _] := S.sel [0, 1, 3, 4, 2] _ rfl rfl
            have S := S.drop1.drop1.drop1.drop1
            · rw [hrd]; dsimp only; exact S
          · skip
            exact RunT.none
      · skip
        refine RunT.alt ?_ ?_
        · skip
          refine Run.load1 rfl rfl E S rfl rfl rfl one3 (fun _ s => s.objCell 0 2 rfl rfl) ?_; clear E a; intro a E
          refine RunT.end ?_
          refine RunT.alt ?_ ?_
          · skip
            refine Run.load1 rfl rfl E S rfl rfl rfl one3 (fun _ s => s.objCell 0 1 rfl rfl) ?_; clear E a; intro a E
            refine RunT.end ?_
            refine RunT.one ?_
            refine Run.sub rfl E rfl rfl rfl rfl rfl ?_; clear E a; intro a E
            refine RunT.end ?_
            refine RunT.one ?_
            refine Run.store (news := [.int .i64 v6, .int .i64 x0, .int .i64 x1, .int .i64 x2, .int .i64 x3, .int .i64 x4, .int .i64 x5, .slice A13 s.caps.length c14]) (cs' := [_, _, _, _, _, _, _, _]) (hp' := [_, _, _, _, _]) 3 rfl E S rfl rfl rfl rfl rfl sz93 rfl rfl rfl rfl ?_; clear S; intro w S
            refine RunT.end ?_
            refine RunT.one ?_
            refine Run.assign rfl E rfl rfl rfl ?_; clear E a; intro a E
            refine RunT.end ?_
            refine RunT.one ?_
            refine Run.assign rfl E rfl rfl rfl ?_; clear E a; intro a E
            refine RunT.end ?_
            refine RunT.done ?_
            refine then_n ?_
            refine wp_ret ?_
            have hrd : rdF s b at_ = (p, q, ⟨v6, x0, x1, x2, x3, x4, x5, s.caps⟩) := rdF_of hr7 hr11 hfl (by rw [if_pos h64])
            refine retN E (vs := [.agg #[.int .i64 v6, .int .i64 x0, .int .i64 x1, .int .i64 x2, .int .i64 x3, .int .i64 x4, .int .i64 x5, .slice A13 s.caps.length c14], .int .i64 (IntKind.i64.wrap (p - at_)), .int .i64 (q : Int)]) Try.results67 (.cell (E.slot _ _ rfl) (run_loadVarAgg ag93 rfl (objAll S 3 rfl)) (.tmp (E.slot _ _ rfl) (.tmp (E.slot _ _ rfl) .nil))) rfl ⟨A13, c14, ?_, ?_⟩
            · rw [hrd]; dsimp only; rfl
            have S : St _ _ _ [_, _, _, _, _] := S.sel [0, 1, 3, 4, 2] _ rfl rfl
            have S := S.drop1.drop1.drop1.drop1
            · rw [hrd]; dsimp only; exact S
          · skip
            refine RunT.altl ?_ ?_
            · skip
              refine Run.store (news := [.int .i64 v6, .int .i64 x0, .int .i64 x1, .int .i64 x2, .int .i64 x3, .int .i64 x4, .int .i64 x5, .slice A13 s.caps.length c14]) (cs' := [_, _, _, _, _, _, _, _]) (hp' := [_, _, _, _, _]) 3 rfl E S rfl rfl rfl rfl rfl sz93 rfl rfl rfl rfl ?_; clear S; intro w S
              refine RunT.end ?_
              refine RunT.one ?_
              refine Run.load1 rfl rfl E S rfl rfl rfl one3 (fun _ s => s.objCell 0 1 rfl rfl) ?_; clear E a; intro a E
              refine RunT.end ?_
              refine RunT.one ?_
              refine Run.sub rfl E rfl rfl rfl rfl rfl ?_; clear E a; intro a E
              refine RunT.end ?_
              refine RunT.one ?_
              refine Run.assign rfl E rfl rfl rfl ?_; clear E a; intro a E
              refine RunT.end ?_
              refine RunT.one ?_
              refine Run.assign rfl E rfl rfl rfl ?_; clear E a; intro a E
              refine RunT.end ?_
              refine RunT.done ?_
              refine then_n ?_
              refine wp_ret ?_
              have hrd : rdF s b at_ = (p, q, ⟨v6, x0, x1, x2, x3, x4, x5, s.caps⟩) := rdF_of hr7 hr11 hfl (by rw [if_pos h64])
              refine retN E (vs := [.agg #[.int .i64 v6, .int .i64 x0, .int .i64 x1, .int .i64 x2, .int .i64 x3, .int .i64 x4, .int .i64 x5, .slice A13 s.caps.length c14], .int .i64 (IntKind.i64.wrap (p - at_)), .int .i64 (q : Int)]) Try.results67 (.cell (E.slot _ _ rfl) (run_loadVarAgg ag93 rfl (objAll S 3 rfl)) (.tmp (E.slot _ _ rfl) (.tmp (E.slot _ _ rfl) .nil))) rfl ⟨A13, c14, ?_, ?_⟩
              · rw [hrd]; dsimp only; rfl
              have S : St _ _ _ [_, _, _, _, _] := S.sel [0, 1, 3, 4, 2] _ rfl rfl
              have S := S.drop1.drop1.drop1.drop1
              · rw [hrd]; dsimp only; exact S
            · skip
              exact RunT.none
        · skip
          refine RunT.altl ?_ ?_
          · skip
            refine Run.store (news := [.int .i64 v6, .int .i64 x0, .int .i64 x1, .int .i64 x2, .int .i64 x3, .int .i64 x4, .int .i64 x5, .slice A13 s.caps.length c14]) (cs' := [_, _, _, _, _, _, _, _]) (hp' := [_, _, _, _, _]) 3 rfl E S rfl rfl rfl rfl rfl sz93 rfl rfl rfl rfl ?_; clear S; intro w S
            refine RunT.end ?_
            refine RunT.one ?_
            refine Run.load1 rfl rfl E S rfl rfl rfl one3 (fun _ s => s.objCell 0 1 rfl rfl) ?_; clear E a; intro a E
            refine RunT.end ?_
            refine RunT.one ?_
            refine Run.sub rfl E rfl rfl rfl rfl rfl ?_; clear E a; intro a E
            refine RunT.end ?_
            refine RunT.one ?_
            refine Run.assign rfl E rfl rfl rfl ?_; clear E a; intro a E
            refine RunT.end ?_
            refine RunT.one ?_
            refine Run.load1 rfl rfl E S rfl rfl rfl one3 (fun _ s => s.objCell 0 2 rfl rfl) ?_; clear E a; intro a E
            refine RunT.end ?_
            refine RunT.one ?_
            refine Run.assign rfl E rfl rfl rfl ?_; clear E a; intro a E
            refine RunT.end ?_
            refine RunT.done ?_
            refine then_n ?_
            refine wp_ret ?_
            have hrd : rdF s b at_ = (p, q, ⟨v6, x0, x1, x2, x3, x4, x5, s.caps⟩) := rdF_of hr7 hr11 hfl (by rw [if_pos h64])
            refine retN E (vs := [.agg #[.int .i64 v6, .int .i64 x0, .int .i64 x1, .int .i64 x2, .int .i64 x3, .int .i64 x4, .int .i64 x5, .slice A13 s.caps.length c14], .int .i64 (IntKind.i64.wrap (p - at_)), .int .i64 (q : Int)]) Try.results67 (.cell (E.slot _ _ rfl) (run_loadVarAgg ag93 rfl (objAll S 3 rfl)) (.tmp (E.slot _ _ rfl) (.tmp (E.slot _ _ rfl) .nil))) rfl ⟨A13, c14, ?_, ?_⟩
            · rw [hrd]; dsimp only; rfl
            have S : St _ _ _ [_, _, _, _, _] := S.sel [0, 1, 3, 4, 2] _ rfl rfl
            have S := S.drop1.drop1.drop1.drop1
            · rw [hrd]; dsimp only; exact S
          · skip
            exact RunT.none
    · skip
      refine Run.eqi rfl E rfl rfl rfl rfl (decide_eq_true (by omega)) ?_; clear E a; intro a E
      refine Run.move rfl E rfl rfl rfl ?_; clear E a; intro a E
      refine Run.fieldAddr rfl E rfl rfl rfl fo157_2 (rfl) ?_; clear E a; intro a E
      refine Run.load1 rfl rfl E S rfl rfl rfl one3 (fun _ s => s.objCell 0 2 rfl rfl) ?_; clear E a; intro a E
      by_cases hq0 : q = 0
      · skip
        refine Run.eqi rfl E rfl rfl rfl rfl (decide_eq_true (by omega)) ?_; clear E a; intro a E
        refine Run.pickT rfl E rfl rfl rfl rfl ?_; clear E a; intro a E
        refine Run.nil ?_
        refine then_n ?_
        refine cond_T E rfl ?_
        refine wp_seq ?_
        refine region_plain (n := 11) [(0, .l), (1, .p), (2, .l), (3, .p), (4, .e), (5, .p), (6, .p), (7, .p), (8, .e), (9, .l), (10, .p)] rfl rfl ?_
        refine Run.loadN (cs := [.slice A b.length c, .int .i64 p, .int .i64 (q : Int)]) rfl rfl E S rfl rfl rfl ag157 rfl (fun _ s => objAll s 0 rfl) ?_; clear E a; intro a E
        refine Run.fieldAddr rfl E rfl rfl rfl fo93_1 (rfl) ?_; clear E a; intro a E
        refine Run.load1 rfl rfl E S rfl rfl rfl one32 (fun _ s => s.objCell 1 7 rfl rfl) ?_; clear E a; intro a E
        refine Run.len rfl E rfl rfl rfl Try.underlying32 ?_; clear E a; intro a E
        obtain ⟨a45, e46, v47, hr48⟩ : ∃ (x : Int) (y : Nat) (z : Int), numR b p q (s.caps.length : Int) = (x, y, z) := ⟨_, _, _, rfl⟩
        have hc := rnumber_walk (A := A) (c := c) (at_ := p) (e := q) (most := (s.caps.length : Int)) (H1.bel S.belT) hb8 hl (by omega) (by omega)
        rw [hr48] at hc; dsimp only at hc
        have hvv47 := numR_ge b p q (s.caps.length : Int) (by omega); rw [hr48] at hvv47; dsimp only at hvv47
        refine Run.call (args := [.agg #[.slice A b.length c, .int .i64 p, .int .i64 (q : Int)], .int .i64 (s.caps.length : Int)]) rfl rfl E rfl rfl Try.func107 nm107 rfl rfl (hc) ?_; rintro e_ w ⟨rfl, B_⟩; refine ⟨_, rfl, fun _ => B_, ?_⟩; clear E a; replace S := S.bel B_; intro a E
        clear B_
        refine Run.move rfl E rfl rfl rfl ?_; clear E a; intro a E
        refine Run.extract rfl E rfl rfl rfl rfl ?_; clear E a; intro a E
        refine Run.extract rfl E rfl rfl rfl rfl ?_; clear E a; intro a E
        refine Run.alloc rfl rfl E S rfl rfl z157 rfl ?_; clear E a S; intro b49 w a E S B_; clear B_
        refine Run.store (news := [.slice A b.length c, .int .i64 a45, .int .i64 (e46 : Int)]) (cs' := [_, _, _]) (hp' := [_, _, _, _, _, _]) 0 rfl E S rfl rfl rfl rfl rfl sz157 rfl rfl rfl rfl ?_; clear S; intro w S
        refine Run.assign rfl E rfl rfl rfl ?_; clear E a; intro a E
        refine Run.nil ?_
        refine then_n ?_
        refine wp_seq ?_
        refine region_plain (n := 2) [(0, .l), (1, .l)] rfl rfl ?_
        refine Run.loadN (cs := [.slice A b.length c, .int .i64 a45, .int .i64 (e46 : Int)]) rfl rfl E S rfl rfl rfl ag157 rfl (fun _ s => objAll s 0 rfl) ?_; clear E a; intro a E
        refine Run.store (news := [.slice A b.length c, .int .i64 a45, .int .i64 (e46 : Int)]) (cs' := [_, _, _]) (hp' := [_, _, _, _, _, _]) 1 rfl E S rfl rfl rfl rfl rfl sz157 rfl rfl rfl rfl ?_; clear S; intro w S
        refine Run.nil ?_
        refine then_n ?_
        refine wp_mid (fun a w => ∃ cnt : Nat, ∃ p1 : Int, ∃ ex : Nat, Env 165 [(2, .int .i64 at_), (6, .pointer (some ⟨b2, 0, none⟩)), (7, .int .i64 0), (8, .int .i64 0), (9, .pointer (some ⟨b3, 0, none⟩)), (12, .pointer (some ⟨b12, 0, none⟩)), (17, .int .i64 (cnt : Int))] a ∧ St [] w0 w [.obj b3 157 [.slice A b.length c, .int .i64 p1, .int .i64 (ex : Int)], .obj b49 157 [.slice A b.length c, .int .i64 a45, .int .i64 (e46 : Int)], .obj b12 93 [.int .i64 v6, .int .i64 x0, .int .i64 x1, .int .i64 x2, .int .i64 x3, .int .i64 x4, .int .i64 x5, .slice A13 s.caps.length c14], .row (.slice A13 s.caps.length c14) 3 1 s.caps.length (([]) ++ (ints s.caps)), .obj b2 93 [.int .i64 0, .int .i64 0, .int .i64 0, .int .i64 0, .int .i64 0, .int .i64 0, .int .i64 0, .slice none 0 0], .obj b1 93 [.int .i64 s.kind, .int .i64 s.node, .int .i64 s.phase, .int .i64 s.pos, .int .i64 s.start, .int .i64 s.depth, .int .i64 s.org, .slice C s.caps.length d]] ∧ (plR b p q s.caps = plS b cnt p1 ex 0 s.caps) ∧ ((cnt : Int) ≤ (s.caps.length : Int))) ?_ ?_
        · skip
          refine wp_seq ?_
          refine region_plain (n := 7) [(0, .p), (1, .l), (2, .p), (3, .p), (4, .p), (5, .p), (6, .p)] rfl rfl ?_
          refine Run.fieldAddr rfl E rfl rfl rfl fo157_2 (rfl) ?_; clear E a; intro a E
          refine Run.load1 rfl rfl E S rfl rfl rfl one3 (fun _ s => s.objCell 1 2 rfl rfl) ?_; clear E a; intro a E
          by_cases he1 : e46 = 0
          · skip
            refine Run.eqi rfl E rfl rfl rfl rfl (decide_eq_true (by omega)) ?_; clear E a; intro a E
            refine Run.move rfl E rfl rfl rfl ?_; clear E a; intro a E
            refine Run.move rfl E rfl rfl rfl ?_; clear E a; intro a E
            by_cases hn0 : v47 = 0
            · skip
              refine Run.eqi rfl E rfl rfl rfl rfl (decide_eq_true (by omega)) ?_; clear E a; intro a E
              refine Run.pickT rfl E rfl rfl rfl rfl ?_; clear E a; intro a E
              refine Run.nil ?_
              refine then_n ?_
              refine cond_T E rfl ?_
              refine region_plain (n := 2) [(0, .p), (1, .l)] rfl rfl ?_
              refine Run.fieldAddr rfl E rfl rfl rfl fo157_2 (rfl) ?_; clear E a; intro a E
              refine Run.store (news := [.int .i64 11]) (cs' := [_, _, _]) (hp' := [_, _, _, _, _, _]) 1 rfl E S rfl rfl rfl rfl rfl sz3 rfl rfl rfl rfl ?_; clear S; intro w S
              refine Run.nil ?_
              refine then_n ?_
              obtain ⟨cnt, hcnt⟩ : ∃ cnt : Nat, (cnt : Int) = v47 := ⟨v47.toNat, by omega⟩
              have hT : plR b p q s.caps = plS b cnt a45 11 0 s.caps := by unfold plR; rw [hr48]; dsimp only; rw [if_pos ⟨hn0, he1⟩]; congr 1; omega
              replace E := E.setv 17 rfl (show Value.int .i64 v47 = .int .i64 (cnt : Int) by rw [hcnt])
              replace S : St _ _ _ [_, .obj b3 157 [.slice A b.length c, .int .i64 a45, .int .i64 ((11 : Nat) : Int)], _, _, _, _] := S
              have S : St _ _ _ [_, _, _, _, _, _] := S.sel [1, 0, 2, 3, 4, 5] _ rfl rfl
              exact ⟨cnt, a45, 11, E.keeps [(2, _), (6, _), (7, _), (8, _), (9, _), (12, _), (17, _)] ⟨rfl, rfl, rfl, rfl, rfl, rfl, rfl, trivial⟩, S, hT, (by omega)⟩
            · skip
              refine Run.eqi rfl E rfl rfl rfl rfl (decide_eq_false (by omega)) ?_; clear E a; intro a E
              refine Run.pickT rfl E rfl rfl rfl rfl ?_; clear E a; intro a E
              refine Run.nil ?_
              refine then_n ?_
              refine cond_F E rfl ?_
              refine wp_skip ?_
              refine then_n ?_
              obtain ⟨cnt, hcnt⟩ : ∃ cnt : Nat, (cnt : Int) = v47 := ⟨v47.toNat, by omega⟩
              have hT : plR b p q s.caps = plS b cnt a45 e46 0 s.caps := by unfold plR; rw [hr48]; dsimp only; rw [if_neg (by omega)]; congr 1; omega
              replace E := E.setv 17 rfl (show Value.int .i64 v47 = .int .i64 (cnt : Int) by rw [hcnt])
              have S : St _ _ _ [_, _, _, _, _, _] := S.sel [1, 0, 2, 3, 4, 5] _ rfl rfl
              exact ⟨cnt, a45, e46, E.keeps [(2, _), (6, _), (7, _), (8, _), (9, _), (12, _), (17, _)] ⟨rfl, rfl, rfl, rfl, rfl, rfl, rfl, trivial⟩, S, hT, (by omega)⟩
          · skip
            refine Run.eqi rfl E rfl rfl rfl rfl (decide_eq_false (by omega)) ?_; clear E a; intro a E
            refine Run.move rfl E rfl rfl rfl ?_; clear E a; intro a E
            refine Run.off rfl E rfl rfl ?_; clear E a; intro a E
            refine Run.off rfl E rfl rfl ?_; clear E a; intro a E
            refine Run.pickF rfl E rfl rfl rfl rfl ?_; clear E a; intro a E
            refine Run.nil ?_
            refine then_n ?_
            refine cond_F E rfl ?_
            refine wp_skip ?_
            refine then_n ?_
            obtain ⟨cnt, hcnt⟩ : ∃ cnt : Nat, (cnt : Int) = v47 := ⟨v47.toNat, by omega⟩
            have hT : plR b p q s.caps = plS b cnt a45 e46 0 s.caps := by unfold plR; rw [hr48]; dsimp only; rw [if_neg (by omega)]; congr 1; omega
            replace E := E.setv 17 rfl (show Value.int .i64 v47 = .int .i64 (cnt : Int) by rw [hcnt])
            have S : St _ _ _ [_, _, _, _, _, _] := S.sel [1, 0, 2, 3, 4, 5] _ rfl rfl
            exact ⟨cnt, a45, e46, E.keeps [(2, _), (6, _), (7, _), (8, _), (9, _), (12, _), (17, _)] ⟨rfl, rfl, rfl, rfl, rfl, rfl, rfl, trivial⟩, S, hT, (by omega)⟩
        clear E a S
        rintro a w ⟨cnt, p1, ex, E, S, hT, hcl⟩
        refine wp_seq ?_
        refine region_plain (n := 1) [(0, .p)] rfl rfl ?_
        refine Run.assign rfl E rfl rfl rfl ?_; clear E a; intro a E
        refine Run.nil ?_
        refine then_n ?_
        refine wp_seq ?_
        refine region_plain (n := 1) [(0, .p)] rfl rfl ?_
        refine Run.assign rfl E rfl rfl rfl ?_; clear E a; intro a E
        refine Run.nil ?_
        refine then_n ?_
        refine wp_block ?_
        replace S : St _ _ _ [_, _, _, _, _, _] := S.sel [0, 3, 1, 2, 4, 5] _ rfl rfl
        refine wp_loop_ghost (fun n_ a w => ∃ i : Nat, ∃ p2 : Int, ∃ q2 : Nat, ∃ idx : Nat, ∃ m : List Int, cnt - i = n_ ∧ Env 165 [(2, .int .i64 at_), (6, .pointer (some ⟨b2, 0, none⟩)), (7, .int .i64 0), (8, .int .i64 0), (9, .pointer (some ⟨b3, 0, none⟩)), (12, .pointer (some ⟨b12, 0, none⟩)), (17, .int .i64 (cnt : Int)), (18, .int .i64 (idx : Int)), (19, .int .i64 (i : Int))] a ∧ St _ _ w [.obj b3 157 [.slice A b.length c, .int .i64 p2, .int .i64 (q2 : Int)], .row (.slice A13 s.caps.length c14) 3 1 s.caps.length (ints m), .obj b49 157 [.slice A b.length c, .int .i64 a45, .int .i64 (e46 : Int)], .obj b12 93 [.int .i64 v6, .int .i64 x0, .int .i64 x1, .int .i64 x2, .int .i64 x3, .int .i64 x4, .int .i64 x5, .slice A13 s.caps.length c14], .obj b2 93 [.int .i64 0, .int .i64 0, .int .i64 0, .int .i64 0, .int .i64 0, .int .i64 0, .int .i64 0, .slice none 0 0], .obj b1 93 [.int .i64 s.kind, .int .i64 s.node, .int .i64 s.phase, .int .i64 s.pos, .int .i64 s.start, .int .i64 s.depth, .int .i64 s.org, .slice C s.caps.length d]] ∧ (i ≤ cnt) ∧ (m.length = s.caps.length) ∧ (idx ≤ s.caps.length) ∧ (∀ x ∈ m, inr x) ∧ (plR b p q s.caps = plS b (cnt - i) p2 q2 idx m)) _ ⟨0, p1, ex, 0, s.caps, rfl, E.keeps [(2, _), (6, _), (7, _), (8, _), (9, _), (12, _), (17, _), (18, _), (19, _)] ⟨rfl, rfl, rfl, rfl, rfl, rfl, rfl, rfl, rfl, trivial⟩, S, Nat.zero_le _, rfl, Nat.zero_le _, (fun x hx => inr_small (hsc x hx)), hT⟩ ?_
        clear E a S
        rintro n_ a w ⟨i, p2, q2, idx, m, rfl, E, S, hi, hml, hix, hmr, hTl⟩
        refine wp_seq ?_
        refine wp_seq ?_
        refine region_plain (n := 8) [(0, .p), (1, .p), (2, .p), (3, .p), (4, .p), (5, .l), (6, .p), (7, .p)] rfl rfl ?_
        refine Run.move rfl E rfl rfl rfl ?_; clear E a; intro a E
        refine Run.move rfl E rfl rfl rfl ?_; clear E a; intro a E
        by_cases hlt : i < cnt
        · skip
          refine Run.lss rfl E rfl rfl rfl rfl (decide_eq_true (by omega)) ?_; clear E a; intro a E
          refine Run.move rfl E rfl rfl rfl ?_; clear E a; intro a E
          refine Run.fieldAddr rfl E rfl rfl rfl fo157_2 (rfl) ?_; clear E a; intro a E
          refine Run.load1 rfl rfl E S rfl rfl rfl one3 (fun _ s => s.objCell 0 2 rfl rfl) ?_; clear E a; intro a E
          by_cases hq2 : q2 = 0
          · skip
            refine Run.eqi rfl E rfl rfl rfl rfl (decide_eq_true (by omega)) ?_; clear E a; intro a E
            refine Run.pickT rfl E rfl rfl rfl rfl ?_; clear E a; intro a E
            refine Run.nil ?_
            refine then_n ?_
            refine cond_T E rfl ?_
            refine wp_skip ?_
            refine then_n ?_
            refine wp_seq ?_
            refine wp_block ?_
            refine wp_seq ?_
            refine region_plain (n := 7) [(0, .p), (1, .l), (2, .p), (3, .p), (4, .p), (5, .p), (6, .p)] rfl rfl ?_
            refine Run.fieldAddr rfl E rfl rfl rfl fo93_1 (rfl) ?_; clear E a; intro a E
            refine Run.load1 rfl rfl E S rfl rfl rfl one32 (fun _ s => s.objCell 3 7 rfl rfl) ?_; clear E a; intro a E
            refine Run.len rfl E rfl rfl rfl Try.underlying32 ?_; clear E a; intro a E
            refine Run.sub rfl E rfl rfl rfl rfl (i64_ok (by omega)) ?_; clear E a; intro a E
            refine Run.move rfl E rfl rfl rfl ?_; clear E a; intro a E
            refine Run.sub rfl E rfl rfl rfl rfl (i64_ok (by omega)) ?_; clear E a; intro a E
            refine Run.assign rfl E rfl rfl rfl ?_; clear E a; intro a E
            refine Run.nil ?_
            refine then_n ?_
            refine wp_mid (fun a w => ∃ bk : Nat, ∃ av : Int, ∃ ew : Nat, ∃ vv : Int, Env 165 [(2, .int .i64 at_), (6, .pointer (some ⟨b2, 0, none⟩)), (7, .int .i64 0), (8, .int .i64 0), (9, .pointer (some ⟨b3, 0, none⟩)), (12, .pointer (some ⟨b12, 0, none⟩)), (17, .int .i64 (cnt : Int)), (18, .int .i64 (idx : Int)), (19, .int .i64 (i : Int)), (20, .int .i64 (((s.caps.length : Int) - 1) - (idx : Int))), (21, .pointer (some ⟨bk, 0, none⟩)), (22, .int .i64 vv)] a ∧ St [] w0 w [.obj bk 157 [.slice A b.length c, .int .i64 av, .int .i64 (ew : Int)], .obj b3 157 [.slice A b.length c, .int .i64 p2, .int .i64 (q2 : Int)], .row (.slice A13 s.caps.length c14) 3 1 s.caps.length (ints m), .obj b49 157 [.slice A b.length c, .int .i64 a45, .int .i64 (e46 : Int)], .obj b12 93 [.int .i64 v6, .int .i64 x0, .int .i64 x1, .int .i64 x2, .int .i64 x3, .int .i64 x4, .int .i64 x5, .slice A13 s.caps.length c14], .obj b2 93 [.int .i64 0, .int .i64 0, .int .i64 0, .int .i64 0, .int .i64 0, .int .i64 0, .int .i64 0, .slice none 0 0], .obj b1 93 [.int .i64 s.kind, .int .i64 s.node, .int .i64 s.phase, .int .i64 s.pos, .int .i64 s.start, .int .i64 s.depth, .int .i64 s.org, .slice C s.caps.length d]] ∧ (numR b p2 q2 (max ((s.caps.length : Int) - 1 - (idx : Int)) 0) = (av, ew, vv)) ∧ (0 ≤ vv ∧ vv ≤ (max ((s.caps.length : Int) - 1 - (idx : Int)) 0))) ?_ ?_
            · skip
              refine region_tree (n := 10) (.one 1 .p (.one 0 .t (.alt 2 (.alt 3 (.one 4 .p (.one 5 .p (.one 6 .p (.one 7 .e (.one 8 .l (.one 9 .p .done)))))) (.alt 7 (.one 3 .e (.one 4 .p (.one 5 .p (.one 6 .p (.one 8 .l (.one 9 .p .done)))))) .none)) (.alt 7 (.one 2 .e (.one 3 .e (.one 4 .p (.one 5 .p (.one 6 .p (.one 8 .l (.one 9 .p .done))))))) .none)))) [0, 0, 2, 7, 15, 31, 31, 0, 191, 511] S mixed rfl rfl (by kernel_rfl) (fun _ _ _ _ _ h => h) ?_; clear S; intro w S B_; clear B_
              refine RunT.one ?_
              refine Run.move rfl E rfl rfl rfl ?_; clear E a; intro a E
              refine RunT.end ?_
              refine RunT.one ?_
              refine Run.loadN (cs := [.slice A b.length c, .int .i64 p2, .int .i64 (q2 : Int)]) rfl rfl E S rfl rfl rfl ag157 rfl (fun _ s => objAll s 0 rfl) ?_; clear E a; intro a E
              refine RunT.end ?_
              refine RunT.alt ?_ ?_
              · skip
                refine Run.call (args := [.int .i64 (((s.caps.length : Int) - 1) - (idx : Int))]) rfl rfl E rfl rfl Try.func109 nm109 rfl rfl (least_walk) ?_; rintro e_ w ⟨rfl, B_⟩; refine ⟨_, rfl, fun _ => B_, ?_⟩; clear E a; replace S := S.bel B_; intro a E
                clear B_
                refine RunT.end ?_
                refine RunT.alt ?_ ?_
                · skip
                  obtain ⟨a50, e51, v52, hr53⟩ : ∃ (x : Int) (y : Nat) (z : Int), numR b p2 q2 (max (((s.caps.length : Int) - 1) - (idx : Int)) 0) = (x, y, z) := ⟨_, _, _, rfl⟩
                  have hc := rnumber_walk (A := A) (c := c) (at_ := p2) (e := q2) (most := (max (((s.caps.length : Int) - 1) - (idx : Int)) 0)) (H1.bel S.belT) hb8 hl (by omega) (by omega)
                  rw [hr53] at hc; dsimp only at hc
                  have hvv52 := numR_ge b p2 q2 (max (((s.caps.length : Int) - 1) - (idx : Int)) 0) (by omega); rw [hr53] at hvv52; dsimp only at hvv52
                  refine Run.call (args := [.agg #[.slice A b.length c, .int .i64 p2, .int .i64 (q2 : Int)], .int .i64 (max (((s.caps.length : Int) - 1) - (idx : Int)) 0)]) rfl rfl E rfl rfl Try.func107 nm107 rfl rfl (hc) ?_; rintro e_ w ⟨rfl, B_⟩; refine ⟨_, rfl, fun _ => B_, ?_⟩; clear E a; replace S := S.bel B_; intro a E
                  clear B_
                  refine RunT.end ?_
                  refine RunT.one ?_
                  refine Run.move rfl E rfl rfl rfl ?_; clear E a; intro a E
                  refine RunT.end ?_
                  refine RunT.one ?_
                  refine Run.extract rfl E rfl rfl rfl rfl ?_; clear E a; intro a E
                  refine RunT.end ?_
                  refine RunT.one ?_
                  refine Run.extract rfl E rfl rfl rfl rfl ?_; clear E a; intro a E
                  refine RunT.end ?_
                  refine RunT.one ?_
                  refine Run.alloc rfl rfl E S rfl rfl z157 rfl ?_; clear E a S; intro b54 w a E S B_; clear B_
                  refine RunT.end ?_
                  refine RunT.one ?_
                  refine Run.store (news := [.slice A b.length c, .int .i64 a50, .int .i64 (e51 : Int)]) (cs' := [_, _, _]) (hp' := [_, _, _, _, _, _, _]) 0 rfl E S rfl rfl rfl rfl rfl sz157 rfl rfl rfl rfl ?_; clear S; intro w S
                  refine RunT.end ?_
                  refine RunT.one ?_
                  refine Run.assign rfl E rfl rfl rfl ?_; clear E a; intro a E
                  refine RunT.end ?_
                  refine RunT.done ?_
                  refine then_n ?_
                  exact ⟨b54, a50, e51, v52, E.keeps [(2, _), (6, _), (7, _), (8, _), (9, _), (12, _), (17, _), (18, _), (19, _), (20, _), (21, _), (22, _)] ⟨rfl, rfl, rfl, rfl, rfl, rfl, rfl, rfl, rfl, rfl, rfl, rfl, trivial⟩, S, hr53, (by omega)⟩
                · skip
                  refine RunT.alt ?_ ?_
                  · skip
                    refine Run.alloc rfl rfl E S rfl rfl z157 rfl ?_; clear E a S; intro b55 w a E S B_; clear B_
                    refine RunT.end ?_
                    refine RunT.one ?_
                    obtain ⟨a56, e57, v58, hr59⟩ : ∃ (x : Int) (y : Nat) (z : Int), numR b p2 q2 (max (((s.caps.length : Int) - 1) - (idx : Int)) 0) = (x, y, z) := ⟨_, _, _, rfl⟩
                    have hc := rnumber_walk (A := A) (c := c) (at_ := p2) (e := q2) (most := (max (((s.caps.length : Int) - 1) - (idx : Int)) 0)) (H1.bel S.belT) hb8 hl (by omega) (by omega)
                    rw [hr59] at hc; dsimp only at hc
                    have hvv58 := numR_ge b p2 q2 (max (((s.caps.length : Int) - 1) - (idx : Int)) 0) (by omega); rw [hr59] at hvv58; dsimp only at hvv58
                    refine Run.call (args := [.agg #[.slice A b.length c, .int .i64 p2, .int .i64 (q2 : Int)], .int .i64 (max (((s.caps.length : Int) - 1) - (idx : Int)) 0)]) rfl rfl E rfl rfl Try.func107 nm107 rfl rfl (hc) ?_; rintro e_ w ⟨rfl, B_⟩; refine ⟨_, rfl, fun _ => B_, ?_⟩; clear E a; replace S := S.bel B_; intro a E
                    clear B_
                    refine RunT.end ?_
                    refine RunT.one ?_
                    refine Run.move rfl E rfl rfl rfl ?_; clear E a; intro a E
                    refine RunT.end ?_
                    refine RunT.one ?_
                    refine Run.extract rfl E rfl rfl rfl rfl ?_; clear E a; intro a E
                    refine RunT.end ?_
                    refine RunT.one ?_
                    refine Run.extract rfl E rfl rfl rfl rfl ?_; clear E a; intro a E
                    refine RunT.end ?_
                    refine RunT.one ?_
                    refine Run.store (news := [.slice A b.length c, .int .i64 a56, .int .i64 (e57 : Int)]) (cs' := [_, _, _]) (hp' := [_, _, _, _, _, _, _]) 0 rfl E S rfl rfl rfl rfl rfl sz157 rfl rfl rfl rfl ?_; clear S; intro w S
                    refine RunT.end ?_
                    refine RunT.one ?_
                    refine Run.assign rfl E rfl rfl rfl ?_; clear E a; intro a E
                    refine RunT.end ?_
                    refine RunT.done ?_
                    refine then_n ?_
                    exact ⟨b55, a56, e57, v58, E.keeps [(2, _), (6, _), (7, _), (8, _), (9, _), (12, _), (17, _), (18, _), (19, _), (20, _), (21, _), (22, _)] ⟨rfl, rfl, rfl, rfl, rfl, rfl, rfl, rfl, rfl, rfl, rfl, rfl, trivial⟩, S, hr59, (by omega)⟩
                  · skip
                    exact RunT.none
              · skip
                refine RunT.alt ?_ ?_
                · skip
                  refine Run.alloc rfl rfl E S rfl rfl z157 rfl ?_; clear E a S; intro b60 w a E S B_; clear B_
                  refine RunT.end ?_
                  refine RunT.one ?_
                  refine Run.call (args := [.int .i64 (((s.caps.length : Int) - 1) - (idx : Int))]) rfl rfl E rfl rfl Try.func109 nm109 rfl rfl (least_walk) ?_; rintro e_ w ⟨rfl, B_⟩; refine ⟨_, rfl, fun _ => B_, ?_⟩; clear E a; replace S := S.bel B_; intro a E
                  clear B_
                  refine RunT.end ?_
                  refine RunT.one ?_
                  obtain ⟨a61, e62, v63, hr64⟩ : ∃ (x : Int) (y : Nat) (z : Int), numR b p2 q2 (max (((s.caps.length : Int) - 1) - (idx : Int)) 0) = (x, y, z) := ⟨_, _, _, rfl⟩
                  have hc := rnumber_walk (A := A) (c := c) (at_ := p2) (e := q2) (most := (max (((s.caps.length : Int) - 1) - (idx : Int)) 0)) (H1.bel S.belT) hb8 hl (by omega) (by omega)
                  rw [hr64] at hc; dsimp only at hc
                  have hvv63 := numR_ge b p2 q2 (max (((s.caps.length : Int) - 1) - (idx : Int)) 0) (by omega); rw [hr64] at hvv63; dsimp only at hvv63
                  refine Run.call (args := [.agg #[.slice A b.length c, .int .i64 p2, .int .i64 (q2 : Int)], .int .i64 (max (((s.caps.length : Int) - 1) - (idx : Int)) 0)]) rfl rfl E rfl rfl Try.func107 nm107 rfl rfl (hc) ?_; rintro e_ w ⟨rfl, B_⟩; refine ⟨_, rfl, fun _ => B_, ?_⟩; clear E a; replace S := S.bel B_; intro a E
                  clear B_
                  refine RunT.end ?_
                  refine RunT.one ?_
                  refine Run.move rfl E rfl rfl rfl ?_; clear E a; intro a E
                  refine RunT.end ?_
                  refine RunT.one ?_
                  refine Run.extract rfl E rfl rfl rfl rfl ?_; clear E a; intro a E
                  refine RunT.end ?_
                  refine RunT.one ?_
                  refine Run.extract rfl E rfl rfl rfl rfl ?_; clear E a; intro a E
                  refine RunT.end ?_
                  refine RunT.one ?_
                  refine Run.store (news := [.slice A b.length c, .int .i64 a61, .int .i64 (e62 : Int)]) (cs' := [_, _, _]) (hp' := [_, _, _, _, _, _, _]) 0 rfl E S rfl rfl rfl rfl rfl sz157 rfl rfl rfl rfl ?_; clear S; intro w S
                  refine RunT.end ?_
                  refine RunT.one ?_
                  refine Run.assign rfl E rfl rfl rfl ?_; clear E a; intro a E
                  refine RunT.end ?_
                  refine RunT.done ?_
                  refine then_n ?_
                  exact ⟨b60, a61, e62, v63, E.keeps [(2, _), (6, _), (7, _), (8, _), (9, _), (12, _), (17, _), (18, _), (19, _), (20, _), (21, _), (22, _)] ⟨rfl, rfl, rfl, rfl, rfl, rfl, rfl, rfl, rfl, rfl, rfl, rfl, trivial⟩, S, hr64, (by omega)⟩
                · skip
                  exact RunT.none
            clear E a S
            rintro a w ⟨bk, av, ew, vv, E, S, hnm, hvv⟩
            refine wp_seq ?_
            refine region_plain (n := 2) [(0, .l), (1, .l)] rfl rfl ?_
            refine Run.loadN (cs := [.slice A b.length c, .int .i64 av, .int .i64 (ew : Int)]) rfl rfl E S rfl rfl rfl ag157 rfl (fun _ s => objAll s 0 rfl) ?_; clear E a; intro a E
            refine Run.store (news := [.slice A b.length c, .int .i64 av, .int .i64 (ew : Int)]) (cs' := [_, _, _]) (hp' := [_, _, _, _, _, _, _]) 1 rfl E S rfl rfl rfl rfl rfl sz157 rfl rfl rfl rfl ?_; clear S; intro w S
            refine Run.nil ?_
            refine then_n ?_
            refine wp_seq ?_
            refine wp_seq ?_
            refine region_plain (n := 7) [(0, .p), (1, .l), (2, .p), (3, .p), (4, .p), (5, .p), (6, .p)] rfl rfl ?_
            refine Run.fieldAddr rfl E rfl rfl rfl fo157_2 (rfl) ?_; clear E a; intro a E
            refine Run.load1 rfl rfl E S rfl rfl rfl one3 (fun _ s => s.objCell 1 2 rfl rfl) ?_; clear E a; intro a E
            by_cases he2 : ew = 0
            · skip
              refine Run.eqi rfl E rfl rfl rfl rfl (decide_eq_true (by omega)) ?_; clear E a; intro a E
              refine Run.move rfl E rfl rfl rfl ?_; clear E a; intro a E
              refine Run.move rfl E rfl rfl rfl ?_; clear E a; intro a E
              by_cases hif : s.caps.length ≤ idx
              · skip
                refine Run.lss rfl E rfl rfl rfl rfl (decide_eq_true (by omega)) ?_; clear E a; intro a E
                refine Run.pickT rfl E rfl rfl rfl rfl ?_; clear E a; intro a E
                refine Run.nil ?_
                refine then_n ?_
                refine cond_T E rfl ?_
                refine region_plain (n := 2) [(0, .p), (1, .l)] rfl rfl ?_
                refine Run.fieldAddr rfl E rfl rfl rfl fo157_2 (rfl) ?_; clear E a; intro a E
                refine Run.store (news := [.int .i64 11]) (cs' := [_, _, _]) (hp' := [_, _, _, _, _, _, _]) 1 rfl E S rfl rfl rfl rfl rfl sz3 rfl rfl rfl rfl ?_; clear S; intro w S
                refine Run.nil ?_
                refine then_n ?_
                refine wp_seq ?_
                refine region_plain (n := 8) [(0, .l), (1, .e), (2, .p), (3, .p), (4, .p), (5, .e), (6, .l), (7, .p)] rfl rfl ?_
                refine Run.loadN (cs := [.slice A b.length c, .int .i64 av, .int .i64 11]) rfl rfl E S rfl rfl rfl ag157 rfl (fun _ s => objAll s 1 rfl) ?_; clear E a; intro a E
                have hc := rmore_walk (A := A) (c := c) (at_ := av) (e := 11) (H1.bel S.belT) hb8 hl
                rw [morR_bad (by omega)] at hc; dsimp only at hc
                refine Run.call (args := [.agg #[.slice A b.length c, .int .i64 av, .int .i64 11]]) rfl rfl E rfl rfl Try.func108 nm108 rfl rfl (hc) ?_; rintro e_ w ⟨rfl, B_⟩; refine ⟨_, rfl, fun _ => B_, ?_⟩; clear E a; replace S := S.bel B_; intro a E
                clear B_
                refine Run.move rfl E rfl rfl rfl ?_; clear E a; intro a E
                refine Run.extract rfl E rfl rfl rfl rfl ?_; clear E a; intro a E
                refine Run.extract rfl E rfl rfl rfl rfl ?_; clear E a; intro a E
                refine Run.alloc rfl rfl E S rfl rfl z157 rfl ?_; clear E a S; intro b69 w a E S B_; clear B_
                refine Run.store (news := [.slice A b.length c, .int .i64 av, .int .i64 ((11 : Nat) : Int)]) (cs' := [_, _, _]) (hp' := [_, _, _, _, _, _, _, _]) 0 rfl E S rfl rfl rfl rfl rfl sz157 rfl rfl rfl rfl ?_; clear S; intro w S
                refine Run.assign rfl E rfl rfl rfl ?_; clear E a; intro a E
                refine Run.nil ?_
                refine then_n ?_
                refine wp_seq ?_
                refine region_plain (n := 2) [(0, .l), (1, .l)] rfl rfl ?_
                refine Run.loadN (cs := [.slice A b.length c, .int .i64 av, .int .i64 ((11 : Nat) : Int)]) rfl rfl E S rfl rfl rfl ag157 rfl (fun _ s => objAll s 0 rfl) ?_; clear E a; intro a E
                refine Run.store (news := [.slice A b.length c, .int .i64 av, .int .i64 ((11 : Nat) : Int)]) (cs' := [_, _, _]) (hp' := [_, _, _, _, _, _, _, _]) 2 rfl E S rfl rfl rfl rfl rfl sz157 rfl rfl rfl rfl ?_; clear S; intro w S
                refine Run.nil ?_
                refine then_n ?_
                refine wp_seq ?_
                refine region_plain (n := 3) [(0, .p), (1, .l), (2, .p)] rfl rfl ?_
                refine Run.fieldAddr rfl E rfl rfl rfl fo157_2 (rfl) ?_; clear E a; intro a E
                refine Run.load1 rfl rfl E S rfl rfl rfl one3 (fun _ s => s.objCell 2 2 rfl rfl) ?_; clear E a; intro a E
                refine Run.eqi rfl E rfl rfl rfl rfl (decide_eq_false (by decide)) ?_; clear E a; intro a E
                refine Run.nil ?_
                refine then_n ?_
                refine cond_F E rfl ?_
                refine wp_skip ?_
                refine blk_n ?_
                refine then_n ?_
                refine region_plain (n := 3) [(0, .p), (1, .p), (2, .p)] rfl rfl ?_
                refine Run.move rfl E rfl rfl rfl ?_; clear E a; intro a E
                refine Run.add rfl E rfl rfl rfl rfl (i64_ok (by omega)) ?_; clear E a; intro a E
                refine Run.assign rfl E rfl rfl rfl ?_; clear E a; intro a E
                refine Run.nil ?_
                refine then_n ?_
                replace E := E.setv 19 rfl (show Value.int .i64 ((i : Int) + 1) = .int .i64 ((i + 1 : Nat) : Int) from rfl)
                have hnumX : numR b p2 q2 (max ((m.length : Int) - 1 - (idx : Int)) 0) = (av, ew, vv) := by rw [hml]; exact hnm
                have S : St _ _ _ [_, _, _, _, _, _, _, _] := S.sel [0, 1, 2, 3, 4, 5, 6, 7] _ rfl rfl
                have S := S.drop1.drop1
                exact ⟨_, (by omega), (i + 1), av, 11, idx, m, rfl, E.keeps [(2, _), (6, _), (7, _), (8, _), (9, _), (12, _), (17, _), (18, _), (19, _)] ⟨rfl, rfl, rfl, rfl, rfl, rfl, rfl, rfl, rfl, trivial⟩, S, (by omega), hml, hix, hmr, (by rw [hTl, show cnt - i = (cnt - (i + 1)) + 1 by omega, plS_far hnumX he2 (by omega), plS_bad (by decide)])⟩
              · skip
                refine Run.lss rfl E rfl rfl rfl rfl (decide_eq_false (by omega)) ?_; clear E a; intro a E
                refine Run.pickT rfl E rfl rfl rfl rfl ?_; clear E a; intro a E
                refine Run.nil ?_
                refine then_n ?_
                refine cond_F E rfl ?_
                refine wp_skip ?_
                refine then_n ?_
                refine wp_seq ?_
                refine region_plain (n := 8) [(0, .l), (1, .e), (2, .p), (3, .p), (4, .p), (5, .e), (6, .l), (7, .p)] rfl rfl ?_
                refine Run.loadN (cs := [.slice A b.length c, .int .i64 av, .int .i64 (ew : Int)]) rfl rfl E S rfl rfl rfl ag157 rfl (fun _ s => objAll s 1 rfl) ?_; clear E a; intro a E
                obtain ⟨a70, e71, v72, hr73⟩ : ∃ (x : Int) (y : Nat) (z : Int), morR b av ew = (x, y, z) := ⟨_, _, _, rfl⟩
                have hc := rmore_walk (A := A) (c := c) (at_ := av) (e := ew) (H1.bel S.belT) hb8 hl
                rw [hr73] at hc; dsimp only at hc
                refine Run.call (args := [.agg #[.slice A b.length c, .int .i64 av, .int .i64 (ew : Int)]]) rfl rfl E rfl rfl Try.func108 nm108 rfl rfl (hc) ?_; rintro e_ w ⟨rfl, B_⟩; refine ⟨_, rfl, fun _ => B_, ?_⟩; clear E a; replace S := S.bel B_; intro a E
                clear B_
                refine Run.move rfl E rfl rfl rfl ?_; clear E a; intro a E
                refine Run.extract rfl E rfl rfl rfl rfl ?_; clear E a; intro a E
                refine Run.extract rfl E rfl rfl rfl rfl ?_; clear E a; intro a E
                refine Run.alloc rfl rfl E S rfl rfl z157 rfl ?_; clear E a S; intro b74 w a E S B_; clear B_
                refine Run.store (news := [.slice A b.length c, .int .i64 a70, .int .i64 (e71 : Int)]) (cs' := [_, _, _]) (hp' := [_, _, _, _, _, _, _, _]) 0 rfl E S rfl rfl rfl rfl rfl sz157 rfl rfl rfl rfl ?_; clear S; intro w S
                refine Run.assign rfl E rfl rfl rfl ?_; clear E a; intro a E
                refine Run.nil ?_
                refine then_n ?_
                refine wp_seq ?_
                refine region_plain (n := 2) [(0, .l), (1, .l)] rfl rfl ?_
                refine Run.loadN (cs := [.slice A b.length c, .int .i64 a70, .int .i64 (e71 : Int)]) rfl rfl E S rfl rfl rfl ag157 rfl (fun _ s => objAll s 0 rfl) ?_; clear E a; intro a E
                refine Run.store (news := [.slice A b.length c, .int .i64 a70, .int .i64 (e71 : Int)]) (cs' := [_, _, _]) (hp' := [_, _, _, _, _, _, _, _]) 2 rfl E S rfl rfl rfl rfl rfl sz157 rfl rfl rfl rfl ?_; clear S; intro w S
                refine Run.nil ?_
                refine then_n ?_
                refine wp_seq ?_
                refine region_plain (n := 3) [(0, .p), (1, .l), (2, .p)] rfl rfl ?_
                refine Run.fieldAddr rfl E rfl rfl rfl fo157_2 (rfl) ?_; clear E a; intro a E
                refine Run.load1 rfl rfl E S rfl rfl rfl one3 (fun _ s => s.objCell 2 2 rfl rfl) ?_; clear E a; intro a E
                by_cases he3 : e71 = 0
                · skip
                  refine Run.eqi rfl E rfl rfl rfl rfl (decide_eq_true (by omega)) ?_; clear E a; intro a E
                  refine Run.nil ?_
                  refine then_n ?_
                  refine cond_T E rfl ?_
                  refine wp_seq ?_
                  refine region_drawS (n := 16) [(0, .p), (2, .p), (3, .p), (4, .p), (5, .p), (7, .p), (8, .p), (9, .p), (12, .p), (1, .t), (6, .t), (10, .p), (11, .t), (13, .p), (14, .p), (15, .l)] [0, 1, 0, 0, 12, 0, 32, 0, 0, 384, 992, 2016, 0, 8160, 16383, 32767] S mixed rfl rfl (by kernel_rfl) (fun _ _ _ _ _ h => h) ?_; clear S; intro w S B_; clear B_
                  refine Run.fieldAddr rfl E rfl rfl rfl fo93_1 (rfl) ?_; clear E a; intro a E
                  refine Run.move rfl E rfl rfl rfl ?_; clear E a; intro a E
                  refine Run.move rfl E rfl rfl rfl ?_; clear E a; intro a E
                  refine Run.add rfl E rfl rfl rfl rfl (i64_ok (by omega)) ?_; clear E a; intro a E
                  refine Run.fieldAddr rfl E rfl rfl rfl fo93_1 (rfl) ?_; clear E a; intro a E
                  refine Run.move rfl E rfl rfl rfl ?_; clear E a; intro a E
                  refine Run.move rfl E rfl rfl rfl ?_; clear E a; intro a E
                  refine Run.add rfl E rfl rfl rfl rfl (i64_ok (by omega)) ?_; clear E a; intro a E
                  refine Run.move rfl E rfl rfl rfl ?_; clear E a; intro a E
                  refine Run.load1 rfl rfl E S rfl rfl rfl one32 (fun _ s => s.objCell 5 7 rfl rfl) ?_; clear E a; intro a E
                  refine Run.load1 rfl rfl E S rfl rfl rfl one32 (fun _ s => s.objCell 5 7 rfl rfl) ?_; clear E a; intro a E
                  have hjl : idx + vv.toNat < m.length := by omega
                  have hxj : m[idx + vv.toNat]? = some (m[idx + vv.toNat]'hjl) := List.getElem?_eq_getElem hjl
                  obtain ⟨bC, rfl⟩ := S.rowAddr 3 rfl (by omega)
                  refine Run.indexAddr rfl E rfl rfl rfl rfl Try.underlying32 sz3 (by omega) (ix_at (m' := (idx + vv.toNat)) (o := (idx + vv.toNat)) (by omega) (Nat.mul_one _)) ?_; clear E a; intro a E
                  refine Run.load1 rfl rfl E S rfl rfl rfl one3 (fun _ s_ => s_.rowCell 3 rfl (ints_get' hxj)) ?_; clear E a; intro a E
                  refine Run.add rfl E rfl rfl rfl rfl rfl ?_; clear E a; intro a E
                  refine Run.indexAddr rfl E rfl rfl rfl rfl Try.underlying32 sz3 (by omega) (ix_at (m' := (idx + vv.toNat)) (o := (idx + vv.toNat)) (by omega) (Nat.mul_one _)) ?_; clear E a; intro a E
                  refine Run.storeRow (hp' := [_, _, _, _, _, _, _, _]) 3 rfl E S rfl rfl rfl rfl (by rw [ints_len]; omega) sz3 rfl rfl ?_; clear S; intro w S
                  refine Run.nil ?_
                  refine then_n ?_
                  refine region_plain (n := 5) [(0, .p), (1, .p), (2, .p), (3, .p), (4, .p)] rfl rfl ?_
                  refine Run.move rfl E rfl rfl rfl ?_; clear E a; intro a E
                  refine Run.move rfl E rfl rfl rfl ?_; clear E a; intro a E
                  refine Run.add rfl E rfl rfl rfl rfl (i64_ok (by omega)) ?_; clear E a; intro a E
                  refine Run.add rfl E rfl rfl rfl rfl (i64_ok (by omega)) ?_; clear E a; intro a E
                  refine Run.assign rfl E rfl rfl rfl ?_; clear E a; intro a E
                  refine Run.nil ?_
                  refine blk_n ?_
                  refine then_n ?_
                  refine region_plain (n := 3) [(0, .p), (1, .p), (2, .p)] rfl rfl ?_
                  refine Run.move rfl E rfl rfl rfl ?_; clear E a; intro a E
                  refine Run.add rfl E rfl rfl rfl rfl (i64_ok (by omega)) ?_; clear E a; intro a E
                  refine Run.assign rfl E rfl rfl rfl ?_; clear E a; intro a E
                  refine Run.nil ?_
                  refine then_n ?_
                  replace E := E.setv 19 rfl (show Value.int .i64 ((i : Int) + 1) = .int .i64 ((i + 1 : Nat) : Int) from rfl)
                  replace E := E.setv 18 rfl (show Value.int .i64 (((idx : Int) + vv) + 1) = .int .i64 ((idx + vv.toNat + 1 : Nat) : Int) by congr 1; omega)
                  have es : (ints m).set (idx + vv.toNat) (.int .i64 (IntKind.i64.wrap ((m[idx + vv.toNat]'hjl) + v72))) = ints (m.set (idx + vv.toNat) (IntKind.i64.wrap ((m[idx + vv.toNat]'hjl) + v72))) := by simp [ints, List.map_set]
                  rw [es] at S
                  have S : St _ _ _ [_, _, _, _, _, _, _, _] := S.sel [0, 1, 2, 3, 4, 5, 6, 7] _ rfl rfl
                  have S := S.drop1.drop1
                  exact ⟨_, (by omega), (i + 1), a70, e71, (idx + vv.toNat + 1), (m.set (idx + vv.toNat) (IntKind.i64.wrap ((m[idx + vv.toNat]'hjl) + v72))), rfl, E.keeps [(2, _), (6, _), (7, _), (8, _), (9, _), (12, _), (17, _), (18, _), (19, _)] ⟨rfl, rfl, rfl, rfl, rfl, rfl, rfl, rfl, rfl, trivial⟩, S, (by omega), (by simp; omega), (by omega), (fun x hx => by rcases List.mem_or_eq_of_mem_set hx with h | h; exact hmr x h; subst h; exact inr_wrap _), (by rw [hTl, show cnt - i = (cnt - (i + 1)) + 1 by omega, plS_go (by rw [hml]; exact hnm) he2 (by omega) hxj, show morR b av 0 = (a70, e71, v72) by rw [← he2]; exact hr73])⟩
                · skip
                  refine Run.eqi rfl E rfl rfl rfl rfl (decide_eq_false (by omega)) ?_; clear E a; intro a E
                  refine Run.nil ?_
                  refine then_n ?_
                  refine cond_F E rfl ?_
                  refine wp_skip ?_
                  refine blk_n ?_
                  refine then_n ?_
                  refine region_plain (n := 3) [(0, .p), (1, .p), (2, .p)] rfl rfl ?_
                  refine Run.move rfl E rfl rfl rfl ?_; clear E a; intro a E
                  refine Run.add rfl E rfl rfl rfl rfl (i64_ok (by omega)) ?_; clear E a; intro a E
                  refine Run.assign rfl E rfl rfl rfl ?_; clear E a; intro a E
                  refine Run.nil ?_
                  refine then_n ?_
                  replace E := E.setv 19 rfl (show Value.int .i64 ((i : Int) + 1) = .int .i64 ((i + 1 : Nat) : Int) from rfl)
                  have hnumX : numR b p2 q2 (max ((m.length : Int) - 1 - (idx : Int)) 0) = (av, ew, vv) := by rw [hml]; exact hnm
                  have S : St _ _ _ [_, _, _, _, _, _, _, _] := S.sel [0, 1, 2, 3, 4, 5, 6, 7] _ rfl rfl
                  have S := S.drop1.drop1
                  exact ⟨_, (by omega), (i + 1), a70, e71, idx, m, rfl, E.keeps [(2, _), (6, _), (7, _), (8, _), (9, _), (12, _), (17, _), (18, _), (19, _)] ⟨rfl, rfl, rfl, rfl, rfl, rfl, rfl, rfl, rfl, trivial⟩, S, (by omega), hml, hix, hmr, (by rw [hTl, show cnt - i = (cnt - (i + 1)) + 1 by omega, plS_stop hnumX he2 (by omega) (List.getElem?_eq_getElem (show idx + vv.toNat < m.length by omega)) (hmr _ (List.getElem_mem _)) (show morR b av 0 = (a70, e71, v72) by rw [← he2]; exact hr73) he3, plS_bad he3])⟩
            · skip
              refine Run.eqi rfl E rfl rfl rfl rfl (decide_eq_false (by omega)) ?_; clear E a; intro a E
              refine Run.move rfl E rfl rfl rfl ?_; clear E a; intro a E
              refine Run.off rfl E rfl rfl ?_; clear E a; intro a E
              refine Run.off rfl E rfl rfl ?_; clear E a; intro a E
              refine Run.pickF rfl E rfl rfl rfl rfl ?_; clear E a; intro a E
              refine Run.nil ?_
              refine then_n ?_
              refine cond_F E rfl ?_
              refine wp_skip ?_
              refine then_n ?_
              refine wp_seq ?_
              refine region_plain (n := 8) [(0, .l), (1, .e), (2, .p), (3, .p), (4, .p), (5, .e), (6, .l), (7, .p)] rfl rfl ?_
              refine Run.loadN (cs := [.slice A b.length c, .int .i64 av, .int .i64 (ew : Int)]) rfl rfl E S rfl rfl rfl ag157 rfl (fun _ s => objAll s 1 rfl) ?_; clear E a; intro a E
              have hc := rmore_walk (A := A) (c := c) (at_ := av) (e := ew) (H1.bel S.belT) hb8 hl
              rw [morR_bad (by omega)] at hc; dsimp only at hc
              refine Run.call (args := [.agg #[.slice A b.length c, .int .i64 av, .int .i64 (ew : Int)]]) rfl rfl E rfl rfl Try.func108 nm108 rfl rfl (hc) ?_; rintro e_ w ⟨rfl, B_⟩; refine ⟨_, rfl, fun _ => B_, ?_⟩; clear E a; replace S := S.bel B_; intro a E
              clear B_
              refine Run.move rfl E rfl rfl rfl ?_; clear E a; intro a E
              refine Run.extract rfl E rfl rfl rfl rfl ?_; clear E a; intro a E
              refine Run.extract rfl E rfl rfl rfl rfl ?_; clear E a; intro a E
              refine Run.alloc rfl rfl E S rfl rfl z157 rfl ?_; clear E a S; intro b79 w a E S B_; clear B_
              refine Run.store (news := [.slice A b.length c, .int .i64 av, .int .i64 ((ew : Nat) : Int)]) (cs' := [_, _, _]) (hp' := [_, _, _, _, _, _, _, _]) 0 rfl E S rfl rfl rfl rfl rfl sz157 rfl rfl rfl rfl ?_; clear S; intro w S
              refine Run.assign rfl E rfl rfl rfl ?_; clear E a; intro a E
              refine Run.nil ?_
              refine then_n ?_
              refine wp_seq ?_
              refine region_plain (n := 2) [(0, .l), (1, .l)] rfl rfl ?_
              refine Run.loadN (cs := [.slice A b.length c, .int .i64 av, .int .i64 ((ew : Nat) : Int)]) rfl rfl E S rfl rfl rfl ag157 rfl (fun _ s => objAll s 0 rfl) ?_; clear E a; intro a E
              refine Run.store (news := [.slice A b.length c, .int .i64 av, .int .i64 ((ew : Nat) : Int)]) (cs' := [_, _, _]) (hp' := [_, _, _, _, _, _, _, _]) 2 rfl E S rfl rfl rfl rfl rfl sz157 rfl rfl rfl rfl ?_; clear S; intro w S
              refine Run.nil ?_
              refine then_n ?_
              refine wp_seq ?_
              refine region_plain (n := 3) [(0, .p), (1, .l), (2, .p)] rfl rfl ?_
              refine Run.fieldAddr rfl E rfl rfl rfl fo157_2 (rfl) ?_; clear E a; intro a E
              refine Run.load1 rfl rfl E S rfl rfl rfl one3 (fun _ s => s.objCell 2 2 rfl rfl) ?_; clear E a; intro a E
              refine Run.eqi rfl E rfl rfl rfl rfl (decide_eq_false (by omega)) ?_; clear E a; intro a E
              refine Run.nil ?_
              refine then_n ?_
              refine cond_F E rfl ?_
              refine wp_skip ?_
              refine blk_n ?_
              refine then_n ?_
              refine region_plain (n := 3) [(0, .p), (1, .p), (2, .p)] rfl rfl ?_
              refine Run.move rfl E rfl rfl rfl ?_; clear E a; intro a E
              refine Run.add rfl E rfl rfl rfl rfl (i64_ok (by omega)) ?_; clear E a; intro a E
              refine Run.assign rfl E rfl rfl rfl ?_; clear E a; intro a E
              refine Run.nil ?_
              refine then_n ?_
              replace E := E.setv 19 rfl (show Value.int .i64 ((i : Int) + 1) = .int .i64 ((i + 1 : Nat) : Int) from rfl)
              have hnumX : numR b p2 q2 (max ((m.length : Int) - 1 - (idx : Int)) 0) = (av, ew, vv) := by rw [hml]; exact hnm
              have S : St _ _ _ [_, _, _, _, _, _, _, _] := S.sel [0, 1, 2, 3, 4, 5, 6, 7] _ rfl rfl
              have S := S.drop1.drop1
              exact ⟨_, (by omega), (i + 1), av, ew, idx, m, rfl, E.keeps [(2, _), (6, _), (7, _), (8, _), (9, _), (12, _), (17, _), (18, _), (19, _)] ⟨rfl, rfl, rfl, rfl, rfl, rfl, rfl, rfl, rfl, trivial⟩, S, (by omega), hml, hix, hmr, (by rw [hTl, show cnt - i = (cnt - (i + 1)) + 1 by omega, plS_err hnumX he2, plS_bad he2])⟩
          · skip
            refine Run.eqi rfl E rfl rfl rfl rfl (decide_eq_false (by omega)) ?_; clear E a; intro a E
            refine Run.pickT rfl E rfl rfl rfl rfl ?_; clear E a; intro a E
            refine Run.nil ?_
            refine then_n ?_
            refine cond_F E rfl ?_
            refine wp_exit ?_
            refine then_x ?_
            refine then_x ?_
            refine blk_x ?_
            refine then_n ?_
            refine wp_seq ?_
            refine region_tree (n := 10) (.one 1 .p (.one 3 .p (.one 5 .p (.one 0 .t (.alt 2 (.one 4 .p (.alt 6 (.one 7 .l (.one 8 .p (.one 9 .p .done))) (.altl 7 (.one 8 .p (.one 6 .t (.one 9 .p .done))) .none))) (.alt 6 (.alt 2 (.one 4 .p (.one 7 .l (.one 8 .p (.one 9 .p .done)))) (.altl 7 (.one 2 .t (.one 4 .p (.one 8 .p (.one 9 .p .done)))) .none)) (.altl 7 (.one 2 .t (.one 4 .p (.one 8 .p (.one 6 .t (.one 9 .p .done))))) .none))))))) [0, 0, 2, 0, 14, 0, 32, 1, 159, 511] S mixed rfl rfl (by kernel_rfl) (fun _ _ _ _ _ h => h) ?_; clear S; intro w S B_; clear B_
            refine RunT.one ?_
            refine Run.fieldAddr rfl E rfl rfl rfl fo157_1 (rfl) ?_; clear E a; intro a E
            refine RunT.end ?_
            refine RunT.one ?_
            refine Run.move rfl E rfl rfl rfl ?_; clear E a; intro a E
            refine RunT.end ?_
            refine RunT.one ?_
            refine Run.fieldAddr rfl E rfl rfl rfl fo157_2 (rfl) ?_; clear E a; intro a E
            refine RunT.end ?_
            refine RunT.one ?_
            refine Run.loadN (cs := [.int .i64 v6, .int .i64 x0, .int .i64 x1, .int .i64 x2, .int .i64 x3, .int .i64 x4, .int .i64 x5, .slice A13 s.caps.length c14]) rfl rfl E S rfl rfl rfl ag93 rfl (fun _ s => objAll s 3 rfl) ?_; clear E a; intro a E
            refine RunT.end ?_
            refine RunT.alt ?_ ?_
            · skip
              refine Run.load1 rfl rfl E S rfl rfl rfl one3 (fun _ s => s.objCell 0 1 rfl rfl) ?_; clear E a; intro a E
              refine RunT.end ?_
              refine RunT.one ?_
              refine Run.sub rfl E rfl rfl rfl rfl rfl ?_; clear E a; intro a E
              refine RunT.end ?_
              refine RunT.alt ?_ ?_
              · skip
                refine Run.load1 rfl rfl E S rfl rfl rfl one3 (fun _ s => s.objCell 0 2 rfl rfl) ?_; clear E a; intro a E
                refine RunT.end ?_
                refine RunT.one ?_
                refine Run.store (news := [.int .i64 v6, .int .i64 x0, .int .i64 x1, .int .i64 x2, .int .i64 x3, .int .i64 x4, .int .i64 x5, .slice A13 s.caps.length c14]) (cs' := [_, _, _, _, _, _, _, _]) (hp' := [_, _, _, _, _, _]) 4 rfl E S rfl rfl rfl rfl rfl sz93 rfl rfl rfl rfl ?_; clear S; intro w S
                refine RunT.end ?_
                refine RunT.one ?_
                refine Run.assign rfl E rfl rfl rfl ?_; clear E a; intro a E
                refine RunT.end ?_
                refine RunT.one ?_
                refine Run.assign rfl E rfl rfl rfl ?_; clear E a; intro a E
                refine RunT.end ?_
                refine RunT.done ?_
                refine then_n ?_
                refine wp_ret ?_
                have hrd : rdF s b at_ = (p2, q2, ⟨v6, x0, x1, x2, x3, x4, x5, m⟩) := rdF_of hr7 hr11 hfl (by rw [if_neg h64, hTl]; exact plS_bad hq2)
                refine retN E (vs := [.agg #[.int .i64 v6, .int .i64 x0, .int .i64 x1, .int .i64 x2, .int .i64 x3, .int .i64 x4, .int .i64 x5, .slice A13 s.caps.length c14], .int .i64 (IntKind.i64.wrap (p2 - at_)), .int .i64 (q2 : Int)]) Try.results67 (.cell (E.slot _ _ rfl) (run_loadVarAgg ag93 rfl (objAll S 4 rfl)) (.tmp (E.slot _ _ rfl) (.tmp (E.slot _ _ rfl) .nil))) rfl ⟨A13, c14, ?_, ?_⟩
                · rw [hrd]; dsimp only; rw [hml]; rfl
                have S : St _ _ _ [_, _, _, _, _, _] := S.sel [0, 2, 3, 4, 5, 1] _ rfl rfl
                have S := S.drop1.drop1.drop1.drop1.drop1
                · rw [hrd]; dsimp only; rw [hml]; exact S
              · skip
                refine RunT.altl ?_ ?_
                · skip
                  refine Run.store (news := [.int .i64 v6, .int .i64 x0, .int .i64 x1, .int .i64 x2, .int .i64 x3, .int .i64 x4, .int .i64 x5, .slice A13 s.caps.length c14]) (cs' := [_, _, _, _, _, _, _, _]) (hp' := [_, _, _, _, _, _]) 4 rfl E S rfl rfl rfl rfl rfl sz93 rfl rfl rfl rfl ?_; clear S; intro w S
                  refine RunT.end ?_
                  refine RunT.one ?_
                  refine Run.assign rfl E rfl rfl rfl ?_; clear E a; intro a E
                  refine RunT.end ?_
                  refine RunT.one ?_
                  refine Run.load1 rfl rfl E S rfl rfl rfl one3 (fun _ s => s.objCell 0 2 rfl rfl) ?_; clear E a; intro a E
                  refine RunT.end ?_
                  refine RunT.one ?_
                  refine Run.assign rfl E rfl rfl rfl ?_; clear E a; intro a E
                  refine RunT.end ?_
                  refine RunT.done ?_
                  refine then_n ?_
                  refine wp_ret ?_
                  have hrd : rdF s b at_ = (p2, q2, ⟨v6, x0, x1, x2, x3, x4, x5, m⟩) := rdF_of hr7 hr11 hfl (by rw [if_neg h64, hTl]; exact plS_bad hq2)
                  refine retN E (vs := [.agg #[.int .i64 v6, .int .i64 x0, .int .i64 x1, .int .i64 x2, .int .i64 x3, .int .i64 x4, .int .i64 x5, .slice A13 s.caps.length c14], .int .i64 (IntKind.i64.wrap (p2 - at_)), .int .i64 (q2 : Int)]) Try.results67 (.cell (E.slot _ _ rfl) (run_loadVarAgg ag93 rfl (objAll S 4 rfl)) (.tmp (E.slot _ _ rfl) (.tmp (E.slot _ _ rfl) .nil))) rfl ⟨A13, c14, ?_, ?_⟩
                  · rw [hrd]; dsimp only; rw [hml]; rfl
                  have S : St _ _ _ [_, _, _, _, _, _] := S.sel [0, 2, 3, 4, 5, 1] _ rfl rfl
                  have S := S.drop1.drop1.drop1.drop1.drop1
                  · rw [hrd]; dsimp only; rw [hml]; exact S
                · skip
                  exact RunT.none
            · skip
              refine RunT.alt ?_ ?_
              · skip
                refine Run.load1 rfl rfl E S rfl rfl rfl one3 (fun _ s => s.objCell 0 2 rfl rfl) ?_; clear E a; intro a E
                refine RunT.end ?_
                refine RunT.alt ?_ ?_
                · skip
                  refine Run.load1 rfl rfl E S rfl rfl rfl one3 (fun _ s => s.objCell 0 1 rfl rfl) ?_; clear E a; intro a E
                  refine RunT.end ?_
                  refine RunT.one ?_
                  refine Run.sub rfl E rfl rfl rfl rfl rfl ?_; clear E a; intro a E
                  refine RunT.end ?_
                  refine RunT.one ?_
                  refine Run.store (news := [.int .i64 v6, .int .i64 x0, .int .i64 x1, .int .i64 x2, .int .i64 x3, .int .i64 x4, .int .i64 x5, .slice A13 s.caps.length c14]) (cs' := [_, _, _, _, _, _, _, _]) (hp' := [_, _, _, _, _, _]) 4 rfl E S rfl rfl rfl rfl rfl sz93 rfl rfl rfl rfl ?_; clear S; intro w S
                  refine RunT.end ?_
                  refine RunT.one ?_
                  refine Run.assign rfl E rfl rfl rfl ?_; clear E a; intro a E
                  refine RunT.end ?_
                  refine RunT.one ?_
                  refine Run.assign rfl E rfl rfl rfl ?_; clear E a; intro a E
                  refine RunT.end ?_
                  refine RunT.done ?_
                  refine then_n ?_
                  refine wp_ret ?_
                  have hrd : rdF s b at_ = (p2, q2, ⟨v6, x0, x1, x2, x3, x4, x5, m⟩) := rdF_of hr7 hr11 hfl (by rw [if_neg h64, hTl]; exact plS_bad hq2)
                  refine retN E (vs := [.agg #[.int .i64 v6, .int .i64 x0, .int .i64 x1, .int .i64 x2, .int .i64 x3, .int .i64 x4, .int .i64 x5, .slice A13 s.caps.length c14], .int .i64 (IntKind.i64.wrap (p2 - at_)), .int .i64 (q2 : Int)]) Try.results67 (.cell (E.slot _ _ rfl) (run_loadVarAgg ag93 rfl (objAll S 4 rfl)) (.tmp (E.slot _ _ rfl) (.tmp (E.slot _ _ rfl) .nil))) rfl ⟨A13, c14, ?_, ?_⟩
                  · rw [hrd]; dsimp only; rw [hml]; rfl
                  have S : St _ _ _ [_, _, _, _, _, _] := S.sel [0, 2, 3, 4, 5, 1] _ rfl rfl
                  have S := S.drop1.drop1.drop1.drop1.drop1
                  · rw [hrd]; dsimp only; rw [hml]; exact S
                · skip
                  refine RunT.altl ?_ ?_
                  · skip
                    refine Run.store (news := [.int .i64 v6, .int .i64 x0, .int .i64 x1, .int .i64 x2, .int .i64 x3, .int .i64 x4, .int .i64 x5, .slice A13 s.caps.length c14]) (cs' := [_, _, _, _, _, _, _, _]) (hp' := [_, _, _, _, _, _]) 4 rfl E S rfl rfl rfl rfl rfl sz93 rfl rfl rfl rfl ?_; clear S; intro w S
                    refine RunT.end ?_
                    refine RunT.one ?_
                    refine Run.load1 rfl rfl E S rfl rfl rfl one3 (fun _ s => s.objCell 0 1 rfl rfl) ?_; clear E a; intro a E
                    refine RunT.end ?_
                    refine RunT.one ?_
                    refine Run.sub rfl E rfl rfl rfl rfl rfl ?_; clear E a; intro a E
                    refine RunT.end ?_
                    refine RunT.one ?_
                    refine Run.assign rfl E rfl rfl rfl ?_; clear E a; intro a E
                    refine RunT.end ?_
                    refine RunT.one ?_
                    refine Run.assign rfl E rfl rfl rfl ?_; clear E a; intro a E
                    refine RunT.end ?_
                    refine RunT.done ?_
                    refine then_n ?_
                    refine wp_ret ?_
                    have hrd : rdF s b at_ = (p2, q2, ⟨v6, x0, x1, x2, x3, x4, x5, m⟩) := rdF_of hr7 hr11 hfl (by rw [if_neg h64, hTl]; exact plS_bad hq2)
                    refine retN E (vs := [.agg #[.int .i64 v6, .int .i64 x0, .int .i64 x1, .int .i64 x2, .int .i64 x3, .int .i64 x4, .int .i64 x5, .slice A13 s.caps.length c14], .int .i64 (IntKind.i64.wrap (p2 - at_)), .int .i64 (q2 : Int)]) Try.results67 (.cell (E.slot _ _ rfl) (run_loadVarAgg ag93 rfl (objAll S 4 rfl)) (.tmp (E.slot _ _ rfl) (.tmp (E.slot _ _ rfl) .nil))) rfl ⟨A13, c14, ?_, ?_⟩
                    · rw [hrd]; dsimp only; rw [hml]; rfl
                    have S : St _ _ _ [_, _, _, _, _, _] := S.sel [0, 2, 3, 4, 5, 1] _ rfl rfl
                    have S := S.drop1.drop1.drop1.drop1.drop1
                    · rw [hrd]; dsimp only; rw [hml]; exact S
                  · skip
                    exact RunT.none
              · skip
                refine RunT.altl ?_ ?_
                · skip
                  refine Run.store (news := [.int .i64 v6, .int .i64 x0, .int .i64 x1, .int .i64 x2, .int .i64 x3, .int .i64 x4, .int .i64 x5, .slice A13 s.caps.length c14]) (cs' := [_, _, _, _, _, _, _, _]) (hp' := [_, _, _, _, _, _]) 4 rfl E S rfl rfl rfl rfl rfl sz93 rfl rfl rfl rfl ?_; clear S; intro w S
                  refine RunT.end ?_
                  refine RunT.one ?_
                  refine Run.load1 rfl rfl E S rfl rfl rfl one3 (fun _ s => s.objCell 0 1 rfl rfl) ?_; clear E a; intro a E
                  refine RunT.end ?_
                  refine RunT.one ?_
                  refine Run.sub rfl E rfl rfl rfl rfl rfl ?_; clear E a; intro a E
                  refine RunT.end ?_
                  refine RunT.one ?_
                  refine Run.assign rfl E rfl rfl rfl ?_; clear E a; intro a E
                  refine RunT.end ?_
                  refine RunT.one ?_
                  refine Run.load1 rfl rfl E S rfl rfl rfl one3 (fun _ s => s.objCell 0 2 rfl rfl) ?_; clear E a; intro a E
                  refine RunT.end ?_
                  refine RunT.one ?_
                  refine Run.assign rfl E rfl rfl rfl ?_; clear E a; intro a E
                  refine RunT.end ?_
                  refine RunT.done ?_
                  refine then_n ?_
                  refine wp_ret ?_
                  have hrd : rdF s b at_ = (p2, q2, ⟨v6, x0, x1, x2, x3, x4, x5, m⟩) := rdF_of hr7 hr11 hfl (by rw [if_neg h64, hTl]; exact plS_bad hq2)
                  refine retN E (vs := [.agg #[.int .i64 v6, .int .i64 x0, .int .i64 x1, .int .i64 x2, .int .i64 x3, .int .i64 x4, .int .i64 x5, .slice A13 s.caps.length c14], .int .i64 (IntKind.i64.wrap (p2 - at_)), .int .i64 (q2 : Int)]) Try.results67 (.cell (E.slot _ _ rfl) (run_loadVarAgg ag93 rfl (objAll S 4 rfl)) (.tmp (E.slot _ _ rfl) (.tmp (E.slot _ _ rfl) .nil))) rfl ⟨A13, c14, ?_, ?_⟩
                  · rw [hrd]; dsimp only; rw [hml]; rfl
                  have S : St _ _ _ [_, _, _, _, _, _] := S.sel [0, 2, 3, 4, 5, 1] _ rfl rfl
                  have S := S.drop1.drop1.drop1.drop1.drop1
                  · rw [hrd]; dsimp only; rw [hml]; exact S
                · skip
                  exact RunT.none
        · skip
          refine Run.lss rfl E rfl rfl rfl rfl (decide_eq_false (by omega)) ?_; clear E a; intro a E
          refine Run.move rfl E rfl rfl rfl ?_; clear E a; intro a E
          refine Run.off rfl E rfl rfl ?_; clear E a; intro a E
          refine Run.off rfl E rfl rfl ?_; clear E a; intro a E
          refine Run.off rfl E rfl rfl ?_; clear E a; intro a E
          refine Run.pickF rfl E rfl rfl rfl rfl ?_; clear E a; intro a E
          refine Run.nil ?_
          refine then_n ?_
          refine cond_F E rfl ?_
          refine wp_exit ?_
          refine then_x ?_
          refine then_x ?_
          refine blk_x ?_
          refine then_n ?_
          refine wp_seq ?_
          refine region_tree (n := 10) (.one 1 .p (.one 3 .p (.one 5 .p (.one 0 .t (.alt 2 (.one 4 .p (.alt 6 (.one 7 .l (.one 8 .p (.one 9 .p .done))) (.altl 7 (.one 8 .p (.one 6 .t (.one 9 .p .done))) .none))) (.alt 6 (.alt 2 (.one 4 .p (.one 7 .l (.one 8 .p (.one 9 .p .done)))) (.altl 7 (.one 2 .t (.one 4 .p (.one 8 .p (.one 9 .p .done)))) .none)) (.altl 7 (.one 2 .t (.one 4 .p (.one 8 .p (.one 6 .t (.one 9 .p .done))))) .none))))))) [0, 0, 2, 0, 14, 0, 32, 1, 159, 511] S mixed rfl rfl (by kernel_rfl) (fun _ _ _ _ _ h => h) ?_; clear S; intro w S B_; clear B_
          refine RunT.one ?_
          refine Run.fieldAddr rfl E rfl rfl rfl fo157_1 (rfl) ?_; clear E a; intro a E
          refine RunT.end ?_
          refine RunT.one ?_
          refine Run.move rfl E rfl rfl rfl ?_; clear E a; intro a E
          refine RunT.end ?_
          refine RunT.one ?_
          refine Run.fieldAddr rfl E rfl rfl rfl fo157_2 (rfl) ?_; clear E a; intro a E
          refine RunT.end ?_
          refine RunT.one ?_
          refine Run.loadN (cs := [.int .i64 v6, .int .i64 x0, .int .i64 x1, .int .i64 x2, .int .i64 x3, .int .i64 x4, .int .i64 x5, .slice A13 s.caps.length c14]) rfl rfl E S rfl rfl rfl ag93 rfl (fun _ s => objAll s 3 rfl) ?_; clear E a; intro a E
          refine RunT.end ?_
          refine RunT.alt ?_ ?_
          · skip
            refine Run.load1 rfl rfl E S rfl rfl rfl one3 (fun _ s => s.objCell 0 1 rfl rfl) ?_; clear E a; intro a E
            refine RunT.end ?_
            refine RunT.one ?_
            refine Run.sub rfl E rfl rfl rfl rfl rfl ?_; clear E a; intro a E
            refine RunT.end ?_
            refine RunT.alt ?_ ?_
            · skip
              refine Run.load1 rfl rfl E S rfl rfl rfl one3 (fun _ s => s.objCell 0 2 rfl rfl) ?_; clear E a; intro a E
              refine RunT.end ?_
              refine RunT.one ?_
              refine Run.store (news := [.int .i64 v6, .int .i64 x0, .int .i64 x1, .int .i64 x2, .int .i64 x3, .int .i64 x4, .int .i64 x5, .slice A13 s.caps.length c14]) (cs' := [_, _, _, _, _, _, _, _]) (hp' := [_, _, _, _, _, _]) 4 rfl E S rfl rfl rfl rfl rfl sz93 rfl rfl rfl rfl ?_; clear S; intro w S
              refine RunT.end ?_
              refine RunT.one ?_
              refine Run.assign rfl E rfl rfl rfl ?_; clear E a; intro a E
              refine RunT.end ?_
              refine RunT.one ?_
              refine Run.assign rfl E rfl rfl rfl ?_; clear E a; intro a E
              refine RunT.end ?_
              refine RunT.done ?_
              refine then_n ?_
              refine wp_ret ?_
              have hrd : rdF s b at_ = (p2, q2, ⟨v6, x0, x1, x2, x3, x4, x5, m⟩) := rdF_of hr7 hr11 hfl (by rw [if_neg h64, hTl, show cnt - i = 0 by omega]; rfl)
              refine retN E (vs := [.agg #[.int .i64 v6, .int .i64 x0, .int .i64 x1, .int .i64 x2, .int .i64 x3, .int .i64 x4, .int .i64 x5, .slice A13 s.caps.length c14], .int .i64 (IntKind.i64.wrap (p2 - at_)), .int .i64 (q2 : Int)]) Try.results67 (.cell (E.slot _ _ rfl) (run_loadVarAgg ag93 rfl (objAll S 4 rfl)) (.tmp (E.slot _ _ rfl) (.tmp (E.slot _ _ rfl) .nil))) rfl ⟨A13, c14, ?_, ?_⟩
              · rw [hrd]; dsimp only; rw [hml]; rfl
              have S : St _ _ _ [_, _, _, _, _, _] := S.sel [0, 2, 3, 4, 5, 1] _ rfl rfl
              have S := S.drop1.drop1.drop1.drop1.drop1
              · rw [hrd]; dsimp only; rw [hml]; exact S
            · skip
              refine RunT.altl ?_ ?_
              · skip
                refine Run.store (news := [.int .i64 v6, .int .i64 x0, .int .i64 x1, .int .i64 x2, .int .i64 x3, .int .i64 x4, .int .i64 x5, .slice A13 s.caps.length c14]) (cs' := [_, _, _, _, _, _, _, _]) (hp' := [_, _, _, _, _, _]) 4 rfl E S rfl rfl rfl rfl rfl sz93 rfl rfl rfl rfl ?_; clear S; intro w S
                refine RunT.end ?_
                refine RunT.one ?_
                refine Run.assign rfl E rfl rfl rfl ?_; clear E a; intro a E
                refine RunT.end ?_
                refine RunT.one ?_
                refine Run.load1 rfl rfl E S rfl rfl rfl one3 (fun _ s => s.objCell 0 2 rfl rfl) ?_; clear E a; intro a E
                refine RunT.end ?_
                refine RunT.one ?_
                refine Run.assign rfl E rfl rfl rfl ?_; clear E a; intro a E
                refine RunT.end ?_
                refine RunT.done ?_
                refine then_n ?_
                refine wp_ret ?_
                have hrd : rdF s b at_ = (p2, q2, ⟨v6, x0, x1, x2, x3, x4, x5, m⟩) := rdF_of hr7 hr11 hfl (by rw [if_neg h64, hTl, show cnt - i = 0 by omega]; rfl)
                refine retN E (vs := [.agg #[.int .i64 v6, .int .i64 x0, .int .i64 x1, .int .i64 x2, .int .i64 x3, .int .i64 x4, .int .i64 x5, .slice A13 s.caps.length c14], .int .i64 (IntKind.i64.wrap (p2 - at_)), .int .i64 (q2 : Int)]) Try.results67 (.cell (E.slot _ _ rfl) (run_loadVarAgg ag93 rfl (objAll S 4 rfl)) (.tmp (E.slot _ _ rfl) (.tmp (E.slot _ _ rfl) .nil))) rfl ⟨A13, c14, ?_, ?_⟩
                · rw [hrd]; dsimp only; rw [hml]; rfl
                have S : St _ _ _ [_, _, _, _, _, _] := S.sel [0, 2, 3, 4, 5, 1] _ rfl rfl
                have S := S.drop1.drop1.drop1.drop1.drop1
                · rw [hrd]; dsimp only; rw [hml]; exact S
              · skip
                exact RunT.none
          · skip
            refine RunT.alt ?_ ?_
            · skip
              refine Run.load1 rfl rfl E S rfl rfl rfl one3 (fun _ s => s.objCell 0 2 rfl rfl) ?_; clear E a; intro a E
              refine RunT.end ?_
              refine RunT.alt ?_ ?_
              · skip
                refine Run.load1 rfl rfl E S rfl rfl rfl one3 (fun _ s => s.objCell 0 1 rfl rfl) ?_; clear E a; intro a E
                refine RunT.end ?_
                refine RunT.one ?_
                refine Run.sub rfl E rfl rfl rfl rfl rfl ?_; clear E a; intro a E
                refine RunT.end ?_
                refine RunT.one ?_
                refine Run.store (news := [.int .i64 v6, .int .i64 x0, .int .i64 x1, .int .i64 x2, .int .i64 x3, .int .i64 x4, .int .i64 x5, .slice A13 s.caps.length c14]) (cs' := [_, _, _, _, _, _, _, _]) (hp' := [_, _, _, _, _, _]) 4 rfl E S rfl rfl rfl rfl rfl sz93 rfl rfl rfl rfl ?_; clear S; intro w S
                refine RunT.end ?_
                refine RunT.one ?_
                refine Run.assign rfl E rfl rfl rfl ?_; clear E a; intro a E
                refine RunT.end ?_
                refine RunT.one ?_
                refine Run.assign rfl E rfl rfl rfl ?_; clear E a; intro a E
                refine RunT.end ?_
                refine RunT.done ?_
                refine then_n ?_
                refine wp_ret ?_
                have hrd : rdF s b at_ = (p2, q2, ⟨v6, x0, x1, x2, x3, x4, x5, m⟩) := rdF_of hr7 hr11 hfl (by rw [if_neg h64, hTl, show cnt - i = 0 by omega]; rfl)
                refine retN E (vs := [.agg #[.int .i64 v6, .int .i64 x0, .int .i64 x1, .int .i64 x2, .int .i64 x3, .int .i64 x4, .int .i64 x5, .slice A13 s.caps.length c14], .int .i64 (IntKind.i64.wrap (p2 - at_)), .int .i64 (q2 : Int)]) Try.results67 (.cell (E.slot _ _ rfl) (run_loadVarAgg ag93 rfl (objAll S 4 rfl)) (.tmp (E.slot _ _ rfl) (.tmp (E.slot _ _ rfl) .nil))) rfl ⟨A13, c14, ?_, ?_⟩
                · rw [hrd]; dsimp only; rw [hml]; rfl
                have S : St _ _ _ [_, _, _, _, _, _] := S.sel [0, 2, 3, 4, 5, 1] _ rfl rfl
                have S := S.drop1.drop1.drop1.drop1.drop1
                · rw [hrd]; dsimp only; rw [hml]; exact S
              · skip
                refine RunT.altl ?_ ?_
                · skip
                  refine Run.store (news := [.int .i64 v6, .int .i64 x0, .int .i64 x1, .int .i64 x2, .int .i64 x3, .int .i64 x4, .int .i64 x5, .slice A13 s.caps.length c14]) (cs' := [_, _, _, _, _, _, _, _]) (hp' := [_, _, _, _, _, _]) 4 rfl E S rfl rfl rfl rfl rfl sz93 rfl rfl rfl rfl ?_; clear S; intro w S
                  refine RunT.end ?_
                  refine RunT.one ?_
                  refine Run.load1 rfl rfl E S rfl rfl rfl one3 (fun _ s => s.objCell 0 1 rfl rfl) ?_; clear E a; intro a E
                  refine RunT.end ?_
                  refine RunT.one ?_
                  refine Run.sub rfl E rfl rfl rfl rfl rfl ?_; clear E a; intro a E
                  refine RunT.end ?_
                  refine RunT.one ?_
                  refine Run.assign rfl E rfl rfl rfl ?_; clear E a; intro a E
                  refine RunT.end ?_
                  refine RunT.one ?_
                  refine Run.assign rfl E rfl rfl rfl ?_; clear E a; intro a E
                  refine RunT.end ?_
                  refine RunT.done ?_
                  refine then_n ?_
                  refine wp_ret ?_
                  have hrd : rdF s b at_ = (p2, q2, ⟨v6, x0, x1, x2, x3, x4, x5, m⟩) := rdF_of hr7 hr11 hfl (by rw [if_neg h64, hTl, show cnt - i = 0 by omega]; rfl)
                  refine retN E (vs := [.agg #[.int .i64 v6, .int .i64 x0, .int .i64 x1, .int .i64 x2, .int .i64 x3, .int .i64 x4, .int .i64 x5, .slice A13 s.caps.length c14], .int .i64 (IntKind.i64.wrap (p2 - at_)), .int .i64 (q2 : Int)]) Try.results67 (.cell (E.slot _ _ rfl) (run_loadVarAgg ag93 rfl (objAll S 4 rfl)) (.tmp (E.slot _ _ rfl) (.tmp (E.slot _ _ rfl) .nil))) rfl ⟨A13, c14, ?_, ?_⟩
                  · rw [hrd]; dsimp only; rw [hml]; rfl
                  have S : St _ _ _ [_, _, _, _, _, _] := S.sel [0, 2, 3, 4, 5, 1] _ rfl rfl
                  have S := S.drop1.drop1.drop1.drop1.drop1
                  · rw [hrd]; dsimp only; rw [hml]; exact S
                · skip
                  exact RunT.none
            · skip
              refine RunT.altl ?_ ?_
              · skip
                refine Run.store (news := [.int .i64 v6, .int .i64 x0, .int .i64 x1, .int .i64 x2, .int .i64 x3, .int .i64 x4, .int .i64 x5, .slice A13 s.caps.length c14]) (cs' := [_, _, _, _, _, _, _, _]) (hp' := [_, _, _, _, _, _]) 4 rfl E S rfl rfl rfl rfl rfl sz93 rfl rfl rfl rfl ?_; clear S; intro w S
                refine RunT.end ?_
                refine RunT.one ?_
                refine Run.load1 rfl rfl E S rfl rfl rfl one3 (fun _ s => s.objCell 0 1 rfl rfl) ?_; clear E a; intro a E
                refine RunT.end ?_
                refine RunT.one ?_
                refine Run.sub rfl E rfl rfl rfl rfl rfl ?_; clear E a; intro a E
                refine RunT.end ?_
                refine RunT.one ?_
                refine Run.assign rfl E rfl rfl rfl ?_; clear E a; intro a E
                refine RunT.end ?_
                refine RunT.one ?_
                refine Run.load1 rfl rfl E S rfl rfl rfl one3 (fun _ s => s.objCell 0 2 rfl rfl) ?_; clear E a; intro a E
                refine RunT.end ?_
                refine RunT.one ?_
                refine Run.assign rfl E rfl rfl rfl ?_; clear E a; intro a E
                refine RunT.end ?_
                refine RunT.done ?_
                refine then_n ?_
                refine wp_ret ?_
                have hrd : rdF s b at_ = (p2, q2, ⟨v6, x0, x1, x2, x3, x4, x5, m⟩) := rdF_of hr7 hr11 hfl (by rw [if_neg h64, hTl, show cnt - i = 0 by omega]; rfl)
                refine retN E (vs := [.agg #[.int .i64 v6, .int .i64 x0, .int .i64 x1, .int .i64 x2, .int .i64 x3, .int .i64 x4, .int .i64 x5, .slice A13 s.caps.length c14], .int .i64 (IntKind.i64.wrap (p2 - at_)), .int .i64 (q2 : Int)]) Try.results67 (.cell (E.slot _ _ rfl) (run_loadVarAgg ag93 rfl (objAll S 4 rfl)) (.tmp (E.slot _ _ rfl) (.tmp (E.slot _ _ rfl) .nil))) rfl ⟨A13, c14, ?_, ?_⟩
                · rw [hrd]; dsimp only; rw [hml]; rfl
                have S : St _ _ _ [_, _, _, _, _, _] := S.sel [0, 2, 3, 4, 5, 1] _ rfl rfl
                have S := S.drop1.drop1.drop1.drop1.drop1
                · rw [hrd]; dsimp only; rw [hml]; exact S
              · skip
                exact RunT.none
      · skip
        refine Run.eqi rfl E rfl rfl rfl rfl (decide_eq_false (by omega)) ?_; clear E a; intro a E
        refine Run.pickT rfl E rfl rfl rfl rfl ?_; clear E a; intro a E
        refine Run.nil ?_
        refine then_n ?_
        refine cond_F E rfl ?_
        refine wp_skip ?_
        refine then_n ?_
        refine wp_seq ?_
        refine region_tree (n := 10) (.one 1 .p (.one 3 .p (.one 5 .p (.one 0 .t (.alt 2 (.one 4 .p (.alt 6 (.one 7 .l (.one 8 .p (.one 9 .p .done))) (.altl 7 (.one 8 .p (.one 6 .t (.one 9 .p .done))) .none))) (.alt 6 (.alt 2 (.one 4 .p (.one 7 .l (.one 8 .p (.one 9 .p .done)))) (.altl 7 (.one 2 .t (.one 4 .p (.one 8 .p (.one 9 .p .done)))) .none)) (.altl 7 (.one 2 .t (.one 4 .p (.one 8 .p (.one 6 .t (.one 9 .p .done))))) .none))))))) [0, 0, 2, 0, 14, 0, 32, 1, 159, 511] S mixed rfl rfl (by kernel_rfl) (fun _ _ _ _ _ h => h) ?_; clear S; intro w S B_; clear B_
        refine RunT.one ?_
        refine Run.fieldAddr rfl E rfl rfl rfl fo157_1 (rfl) ?_; clear E a; intro a E
        refine RunT.end ?_
        refine RunT.one ?_
        refine Run.move rfl E rfl rfl rfl ?_; clear E a; intro a E
        refine RunT.end ?_
        refine RunT.one ?_
        refine Run.fieldAddr rfl E rfl rfl rfl fo157_2 (rfl) ?_; clear E a; intro a E
        refine RunT.end ?_
        refine RunT.one ?_
        refine Run.loadN (cs := [.int .i64 v6, .int .i64 x0, .int .i64 x1, .int .i64 x2, .int .i64 x3, .int .i64 x4, .int .i64 x5, .slice A13 s.caps.length c14]) rfl rfl E S rfl rfl rfl ag93 rfl (fun _ s => objAll s 1 rfl) ?_; clear E a; intro a E
        refine RunT.end ?_
        refine RunT.alt ?_ ?_
        · skip
          refine Run.load1 rfl rfl E S rfl rfl rfl one3 (fun _ s => s.objCell 0 1 rfl rfl) ?_; clear E a; intro a E
          refine RunT.end ?_
          refine RunT.one ?_
          refine Run.sub rfl E rfl rfl rfl rfl rfl ?_; clear E a; intro a E
          refine RunT.end ?_
          refine RunT.alt ?_ ?_
          · skip
            refine Run.load1 rfl rfl E S rfl rfl rfl one3 (fun _ s => s.objCell 0 2 rfl rfl) ?_; clear E a; intro a E
            refine RunT.end ?_
            refine RunT.one ?_
            refine Run.store (news := [.int .i64 v6, .int .i64 x0, .int .i64 x1, .int .i64 x2, .int .i64 x3, .int .i64 x4, .int .i64 x5, .slice A13 s.caps.length c14]) (cs' := [_, _, _, _, _, _, _, _]) (hp' := [_, _, _, _, _]) 3 rfl E S rfl rfl rfl rfl rfl sz93 rfl rfl rfl rfl ?_; clear S; intro w S
            refine RunT.end ?_
            refine RunT.one ?_
            refine Run.assign rfl E rfl rfl rfl ?_; clear E a; intro a E
            refine RunT.end ?_
            refine RunT.one ?_
            refine Run.assign rfl E rfl rfl rfl ?_; clear E a; intro a E
            refine RunT.end ?_
            refine RunT.done ?_
            refine then_n ?_
            refine wp_ret ?_
            have hrd : rdF s b at_ = (p, q, ⟨v6, x0, x1, x2, x3, x4, x5, s.caps⟩) := rdF_of hr7 hr11 hfl (by rw [if_neg h64]; exact plR_bad hq0)
            refine retN E (vs := [.agg #[.int .i64 v6, .int .i64 x0, .int .i64 x1, .int .i64 x2, .int .i64 x3, .int .i64 x4, .int .i64 x5, .slice A13 s.caps.length c14], .int .i64 (IntKind.i64.wrap (p - at_)), .int .i64 (q : Int)]) Try.results67 (.cell (E.slot _ _ rfl) (run_loadVarAgg ag93 rfl (objAll S 3 rfl)) (.tmp (E.slot _ _ rfl) (.tmp (E.slot _ _ rfl) .nil))) rfl ⟨A13, c14, ?_, ?_⟩
            · rw [hrd]; dsimp only; rfl
            have S : St _ _ _ [_, _, _, _, _] := S.sel [0, 1, 3, 4, 2] _ rfl rfl
            have S := S.drop1.drop1.drop1.drop1
            · rw [hrd]; dsimp only; exact S
          · skip
            refine RunT.altl ?_ ?_
            · skip
              refine Run.store (news := [.int .i64 v6, .int .i64 x0, .int .i64 x1, .int .i64 x2, .int .i64 x3, .int .i64 x4, .int .i64 x5, .slice A13 s.caps.length c14]) (cs' := [_, _, _, _, _, _, _, _]) (hp' := [_, _, _, _, _]) 3 rfl E S rfl rfl rfl rfl rfl sz93 rfl rfl rfl rfl ?_; clear S; intro w S
              refine RunT.end ?_
              refine RunT.one ?_
              refine Run.assign rfl E rfl rfl rfl ?_; clear E a; intro a E
              refine RunT.end ?_
              refine RunT.one ?_
              refine Run.load1 rfl rfl E S rfl rfl rfl one3 (fun _ s => s.objCell 0 2 rfl rfl) ?_; clear E a; intro a E
              refine RunT.end ?_
              refine RunT.one ?_
              refine Run.assign rfl E rfl rfl rfl ?_; clear E a; intro a E
              refine RunT.end ?_
              refine RunT.done ?_
              refine then_n ?_
              refine wp_ret ?_
              have hrd : rdF s b at_ = (p, q, ⟨v6, x0, x1, x2, x3, x4, x5, s.caps⟩) := rdF_of hr7 hr11 hfl (by rw [if_neg h64]; exact plR_bad hq0)
              refine retN E (vs := [.agg #[.int .i64 v6, .int .i64 x0, .int .i64 x1, .int .i64 x2, .int .i64 x3, .int .i64 x4, .int .i64 x5, .slice A13 s.caps.length c14], .int .i64 (IntKind.i64.wrap (p - at_)), .int .i64 (q : Int)]) Try.results67 (.cell (E.slot _ _ rfl) (run_loadVarAgg ag93 rfl (objAll S 3 rfl)) (.tmp (E.slot _ _ rfl) (.tmp (E.slot _ _ rfl) .nil))) rfl ⟨A13, c14, ?_, ?_⟩
              · rw [hrd]; dsimp only; rfl
              have S : St _ _ _ [_, _, _, _, _] := S.sel [0, 1, 3, 4, 2] _ rfl rfl
              have S := S.drop1.drop1.drop1.drop1
              · rw [hrd]; dsimp only; exact S
            · skip
              exact RunT.none
        · skip
          refine RunT.alt ?_ ?_
          · skip
            refine Run.load1 rfl rfl E S rfl rfl rfl one3 (fun _ s => s.objCell 0 2 rfl rfl) ?_; clear E a; intro a E
            refine RunT.end ?_
            refine RunT.alt ?_ ?_
            · skip
              refine Run.load1 rfl rfl E S rfl rfl rfl one3 (fun _ s => s.objCell 0 1 rfl rfl) ?_; clear E a; intro a E
              refine RunT.end ?_
              refine RunT.one ?_
              refine Run.sub rfl E rfl rfl rfl rfl rfl ?_; clear E a; intro a E
              refine RunT.end ?_
              refine RunT.one ?_
              refine Run.store (news := [.int .i64 v6, .int .i64 x0, .int .i64 x1, .int .i64 x2, .int .i64 x3, .int .i64 x4, .int .i64 x5, .slice A13 s.caps.length c14]) (cs' := [_, _, _, _, _, _, _, _]) (hp' := [_, _, _, _, _]) 3 rfl E S rfl rfl rfl rfl rfl sz93 rfl rfl rfl rfl ?_; clear S; intro w S
              refine RunT.end ?_
              refine RunT.one ?_
              refine Run.assign rfl E rfl rfl rfl ?_; clear E a; intro a E
              refine RunT.end ?_
              refine RunT.one ?_
              refine Run.assign rfl E rfl rfl rfl ?_; clear E a; intro a E
              refine RunT.end ?_
              refine RunT.done ?_
              refine then_n ?_
              refine wp_ret ?_
              have hrd : rdF s b at_ = (p, q, ⟨v6, x0, x1, x2, x3, x4, x5, s.caps⟩) := rdF_of hr7 hr11 hfl (by rw [if_neg h64]; exact plR_bad hq0)
              refine retN E (vs := [.agg #[.int .i64 v6, .int .i64 x0, .int .i64 x1, .int .i64 x2, .int .i64 x3, .int .i64 x4, .int .i64 x5, .slice A13 s.caps.length c14], .int .i64 (IntKind.i64.wrap (p - at_)), .int .i64 (q : Int)]) Try.results67 (.cell (E.slot _ _ rfl) (run_loadVarAgg ag93 rfl (objAll S 3 rfl)) (.tmp (E.slot _ _ rfl) (.tmp (E.slot _ _ rfl) .nil))) rfl ⟨A13, c14, ?_, ?_⟩
              · rw [hrd]; dsimp only; rfl
              have S : St _ _ _ [_, _, _, _, _] := S.sel [0, 1, 3, 4, 2] _ rfl rfl
              have S := S.drop1.drop1.drop1.drop1
              · rw [hrd]; dsimp only; exact S
            · skip
              refine RunT.altl ?_ ?_
              · skip
                refine Run.store (news := [.int .i64 v6, .int .i64 x0, .int .i64 x1, .int .i64 x2, .int .i64 x3, .int .i64 x4, .int .i64 x5, .slice A13 s.caps.length c14]) (cs' := [_, _, _, _, _, _, _, _]) (hp' := [_, _, _, _, _]) 3 rfl E S rfl rfl rfl rfl rfl sz93 rfl rfl rfl rfl ?_; clear S; intro w S
                refine RunT.end ?_
                refine RunT.one ?_
                refine Run.load1 rfl rfl E S rfl rfl rfl one3 (fun _ s => s.objCell 0 1 rfl rfl) ?_; clear E a; intro a E
                refine RunT.end ?_
                refine RunT.one ?_
                refine Run.sub rfl E rfl rfl rfl rfl rfl ?_; clear E a; intro a E
                refine RunT.end ?_
                refine RunT.one ?_
                refine Run.assign rfl E rfl rfl rfl ?_; clear E a; intro a E
                refine RunT.end ?_
                refine RunT.one ?_
                refine Run.assign rfl E rfl rfl rfl ?_; clear E a; intro a E
                refine RunT.end ?_
                refine RunT.done ?_
                refine then_n ?_
                refine wp_ret ?_
                have hrd : rdF s b at_ = (p, q, ⟨v6, x0, x1, x2, x3, x4, x5, s.caps⟩) := rdF_of hr7 hr11 hfl (by rw [if_neg h64]; exact plR_bad hq0)
                refine retN E (vs := [.agg #[.int .i64 v6, .int .i64 x0, .int .i64 x1, .int .i64 x2, .int .i64 x3, .int .i64 x4, .int .i64 x5, .slice A13 s.caps.length c14], .int .i64 (IntKind.i64.wrap (p - at_)), .int .i64 (q : Int)]) Try.results67 (.cell (E.slot _ _ rfl) (run_loadVarAgg ag93 rfl (objAll S 3 rfl)) (.tmp (E.slot _ _ rfl) (.tmp (E.slot _ _ rfl) .nil))) rfl ⟨A13, c14, ?_, ?_⟩
                · rw [hrd]; dsimp only; rfl
                have S : St _ _ _ [_, _, _, _, _] := S.sel [0, 1, 3, 4, 2] _ rfl rfl
                have S := S.drop1.drop1.drop1.drop1
                · rw [hrd]; dsimp only; exact S
              · skip
                exact RunT.none
          · skip
            refine RunT.altl ?_ ?_
            · skip
              refine Run.store (news := [.int .i64 v6, .int .i64 x0, .int .i64 x1, .int .i64 x2, .int .i64 x3, .int .i64 x4, .int .i64 x5, .slice A13 s.caps.length c14]) (cs' := [_, _, _, _, _, _, _, _]) (hp' := [_, _, _, _, _]) 3 rfl E S rfl rfl rfl rfl rfl sz93 rfl rfl rfl rfl ?_; clear S; intro w S
              refine RunT.end ?_
              refine RunT.one ?_
              refine Run.load1 rfl rfl E S rfl rfl rfl one3 (fun _ s => s.objCell 0 1 rfl rfl) ?_; clear E a; intro a E
              refine RunT.end ?_
              refine RunT.one ?_
              refine Run.sub rfl E rfl rfl rfl rfl rfl ?_; clear E a; intro a E
              refine RunT.end ?_
              refine RunT.one ?_
              refine Run.assign rfl E rfl rfl rfl ?_; clear E a; intro a E
              refine RunT.end ?_
              refine RunT.one ?_
              refine Run.load1 rfl rfl E S rfl rfl rfl one3 (fun _ s => s.objCell 0 2 rfl rfl) ?_; clear E a; intro a E
              refine RunT.end ?_
              refine RunT.one ?_
              refine Run.assign rfl E rfl rfl rfl ?_; clear E a; intro a E
              refine RunT.end ?_
              refine RunT.done ?_
              refine then_n ?_
              refine wp_ret ?_
              have hrd : rdF s b at_ = (p, q, ⟨v6, x0, x1, x2, x3, x4, x5, s.caps⟩) := rdF_of hr7 hr11 hfl (by rw [if_neg h64]; exact plR_bad hq0)
              refine retN E (vs := [.agg #[.int .i64 v6, .int .i64 x0, .int .i64 x1, .int .i64 x2, .int .i64 x3, .int .i64 x4, .int .i64 x5, .slice A13 s.caps.length c14], .int .i64 (IntKind.i64.wrap (p - at_)), .int .i64 (q : Int)]) Try.results67 (.cell (E.slot _ _ rfl) (run_loadVarAgg ag93 rfl (objAll S 3 rfl)) (.tmp (E.slot _ _ rfl) (.tmp (E.slot _ _ rfl) .nil))) rfl ⟨A13, c14, ?_, ?_⟩
              · rw [hrd]; dsimp only; rfl
              have S : St _ _ _ [_, _, _, _, _] := S.sel [0, 1, 3, 4, 2] _ rfl rfl
              have S := S.drop1.drop1.drop1.drop1
              · rw [hrd]; dsimp only; exact S
            · skip
              exact RunT.none

end
end Go.Proofs.Ytlcglefbhlhcpaa.K
