/- Which states may be: Right, base, blank; numbers, of. -/
import Derived.Test.YtlcglefbhlhcpaaKg
import Derived.Test.YtlcglefbhlhcpaaDeQ
namespace Go.Proofs.Ytlcglefbhlhcpaa.K
open Go.RowKit
set_option linter.unusedVariables false
set_option maxRecDepth 100000
set_option maxHeartbeats 400000

section
variable {w0 : World} {A : Option Addr} {c : Nat} {s : Sta} {l : List Int}

theorem within_walk {x lo hi : Int} : Calls Try.prog 86 [.int .i64 x, .int .i64 lo, .int .i64 hi].toArray w0 (fun r w' => r = .returned (.bool (decide (lo ≤ x ∧ x ≤ hi))) ∧ Bel w0 w') := by
  have S := St.nil [] w0
  refine fn_start Try.func86 rfl 15 rfl rfl [(0, _), (1, _), (2, _)] ⟨rfl, rfl, rfl, trivial⟩ ?_; intro a E
  refine wp_seq ?_
  refine region_plain (n := 1) [(0, .p)] rfl rfl ?_
  refine Run.assign rfl E rfl rfl rfl ?_; clear E a; intro a E
  refine Run.nil ?_
  refine then_n ?_
  refine wp_seq ?_
  refine region_plain (n := 9) [(0, .p), (1, .p), (2, .p), (3, .p), (4, .p), (5, .p), (6, .p), (7, .p), (8, .p)] rfl rfl ?_
  refine Run.move rfl E rfl rfl rfl ?_; clear E a; intro a E
  refine Run.move rfl E rfl rfl rfl ?_; clear E a; intro a E
  by_cases h1 : lo ≤ x
  · skip
    refine Run.geq rfl E rfl rfl rfl rfl (decide_eq_true (by omega)) ?_; clear E a; intro a E
    refine Run.move rfl E rfl rfl rfl ?_; clear E a; intro a E
    refine Run.move rfl E rfl rfl rfl ?_; clear E a; intro a E
    refine Run.move rfl E rfl rfl rfl ?_; clear E a; intro a E
    by_cases h2 : x ≤ hi
    · skip
      refine Run.leq rfl E rfl rfl rfl rfl (decide_eq_true (by omega)) ?_; clear E a; intro a E
      refine Run.pickT rfl E rfl rfl rfl rfl ?_; clear E a; intro a E
      refine Run.assign rfl E rfl rfl rfl ?_; clear E a; intro a E
      refine Run.nil ?_
      refine then_n ?_
      refine wp_ret ?_
      exact ret1 E Try.results86 rfl ⟨by congr 2; symm; exact decide_eq_true ⟨h1, h2⟩, S.belT⟩
    · skip
      refine Run.leq rfl E rfl rfl rfl rfl (decide_eq_false (by omega)) ?_; clear E a; intro a E
      refine Run.pickT rfl E rfl rfl rfl rfl ?_; clear E a; intro a E
      refine Run.assign rfl E rfl rfl rfl ?_; clear E a; intro a E
      refine Run.nil ?_
      refine then_n ?_
      refine wp_ret ?_
      exact ret1 E Try.results86 rfl ⟨by congr 2; symm; exact decide_eq_false (fun h => h2 h.2), S.belT⟩
  · skip
    refine Run.geq rfl E rfl rfl rfl rfl (decide_eq_false (by omega)) ?_; clear E a; intro a E
    refine Run.move rfl E rfl rfl rfl ?_; clear E a; intro a E
    refine Run.off rfl E rfl rfl ?_; clear E a; intro a E
    refine Run.off rfl E rfl rfl ?_; clear E a; intro a E
    refine Run.off rfl E rfl rfl ?_; clear E a; intro a E
    refine Run.pickF rfl E rfl rfl rfl rfl ?_; clear E a; intro a E
    refine Run.assign rfl E rfl rfl rfl ?_; clear E a; intro a E
    refine Run.nil ?_
    refine then_n ?_
    refine wp_ret ?_
    exact ret1 E Try.results86 rfl ⟨by congr 2; symm; exact decide_eq_false (fun h => h1 h.1), S.belT⟩

theorem rclos_walk {x : Int} : Calls Try.prog 88 [.int .i64 x].toArray w0 (fun r w' => r = .returned (.bool (!okCap x)) ∧ Bel w0 w') := by
  have S := St.nil [] w0
  refine fn_start Try.func88 rfl 6 rfl rfl [(0, _)] ⟨rfl, trivial⟩ ?_; intro a E
  refine wp_seq ?_
  refine region_plain (n := 1) [(0, .p)] rfl rfl ?_
  refine Run.assign rfl E rfl rfl rfl ?_; clear E a; intro a E
  refine Run.nil ?_
  refine then_n ?_
  refine wp_seq ?_
  refine region_plain (n := 4) [(0, .p), (1, .e), (2, .p), (3, .p)] rfl rfl ?_
  refine Run.move rfl E rfl rfl rfl ?_; clear E a; intro a E
  refine Run.call (args := [.int .i64 x, .int .i64 (-1), .int .i64 65536]) rfl rfl E rfl rfl Try.func86 nm86 rfl rfl (within_walk (x := x) (lo := -1) (hi := 65536)) ?_; rintro e_ w ⟨rfl, B_⟩; refine ⟨_, rfl, fun _ => B_, ?_⟩; clear E a; replace S := S.bel B_; intro a E
  clear B_
  refine Run.not rfl E rfl rfl rfl rfl ?_; clear E a; intro a E
  refine Run.assign rfl E rfl rfl rfl ?_; clear E a; intro a E
  refine Run.nil ?_
  refine then_n ?_
  refine wp_ret ?_
  exact ret1 E Try.results88 rfl ⟨rfl, S.belT⟩

theorem indexf_walk (H1 : Rd w0 A l.length 1 (ints l)) (hl : l.length ≤ 140737488355328) : Calls Try.prog 113 [.slice A l.length c, .func (.func 88) #[] #[]].toArray w0 (fun r w' => ∃ j : Int, r = .returned (.int .i64 j) ∧ Bel w0 w' ∧ decide (0 ≤ j) = !(l.all okCap)) := by
  have S := St.nil [] w0
  refine fn_start Try.func113 rfl 19 rfl rfl [(0, _), (1, _)] ⟨rfl, rfl, trivial⟩ ?_; intro a E
  refine wp_seq ?_
  refine region_plain (n := 1) [(0, .p)] rfl rfl ?_
  refine Run.assign rfl E rfl rfl rfl ?_; clear E a; intro a E
  refine Run.nil ?_
  refine then_n ?_
  refine wp_seq ?_
  refine wp_seq ?_
  refine region_plain (n := 3) [(0, .p), (1, .p), (2, .p)] rfl rfl ?_
  refine Run.move rfl E rfl rfl rfl ?_; clear E a; intro a E
  refine Run.len rfl E rfl rfl rfl Try.underlying32 ?_; clear E a; intro a E
  refine Run.move rfl E rfl rfl rfl ?_; clear E a; intro a E
  refine Run.nil ?_
  refine then_n ?_
  refine wp_block ?_
  refine wp_loop_ghost (fun n_ a w => ∃ i : Nat, l.length - i = n_ ∧ Env 19 [(0, .slice A l.length c), (1, .func (.func 88) #[] #[]), (7, .int .i64 (l.length : Int)), (8, .int .i64 (i : Int))] a ∧ St _ _ w [] ∧ (∀ j (hj : j < l.length), j < i → okCap l[j] = true)) _ ⟨0, rfl, E.keeps [(0, _), (1, _), (7, _), (8, _)] ⟨rfl, rfl, rfl, rfl, trivial⟩, S, (fun j hj h => absurd h (Nat.not_lt_zero j))⟩ ?_
  clear E a S
  rintro n_ a w ⟨i, rfl, E, S, hp⟩
  refine wp_seq ?_
  refine region_plain (n := 1) [(0, .p)] rfl rfl ?_
  by_cases hlt : i < l.length
  · skip
    obtain ⟨bA, oA, rfl, hA⟩ := H1.place (by omega)
    refine Run.lss rfl E rfl rfl rfl rfl (decide_eq_true (by omega)) ?_; clear E a; intro a E
    refine Run.nil ?_
    refine then_n ?_
    refine wp_seq ?_
    refine cond_T E rfl ?_
    refine wp_skip ?_
    refine then_n ?_
    refine wp_seq ?_
    refine wp_block ?_
    refine wp_seq ?_
    refine region_plain (n := 2) [(0, .p), (1, .p)] rfl rfl ?_
    refine Run.move rfl E rfl rfl rfl ?_; clear E a; intro a E
    refine Run.assign rfl E rfl rfl rfl ?_; clear E a; intro a E
    refine Run.nil ?_
    refine then_n ?_
    refine wp_seq ?_
    refine region_plain (n := 6) [(0, .p), (1, .p), (2, .p), (3, .p), (4, .l), (5, .l)] rfl rfl ?_
    refine Run.move rfl E rfl rfl rfl ?_; clear E a; intro a E
    refine Run.move rfl E rfl rfl rfl ?_; clear E a; intro a E
    refine Run.move rfl E rfl rfl rfl ?_; clear E a; intro a E
    refine Run.indexAddr rfl E rfl rfl rfl rfl Try.underlying32 sz3 (by omega) (ix_at1 (m' := i) (by omega)) ?_; clear E a; intro a E
    refine Run.load1 rfl rfl E S rfl rfl rfl one3 (fun _ s_ => rdAt1 hA s_ (ints_get' (List.getElem?_eq_getElem hlt))) ?_; clear E a; intro a E
    refine Run.callV (args := [.int .i64 (l[i])]) rfl rfl E rfl rfl rfl Try.func88 nm88 rfl rfl (rclos_walk (x := l[i])) ?_; rintro e_ w ⟨rfl, B_⟩; refine ⟨_, rfl, fun _ => B_, ?_⟩; clear E a; replace S := S.bel B_; intro a E; clear B_
    rcases hc : okCap l[i] with _ | _
    · skip
      replace E := E.setb 16 rfl (show (!okCap l[i]) = true by rw [hc]; rfl)
      refine Run.nil ?_
      refine then_n ?_
      refine cond_T E rfl ?_
      refine wp_seq ?_
      refine region_plain (n := 2) [(0, .p), (1, .p)] rfl rfl ?_
      refine Run.move rfl E rfl rfl rfl ?_; clear E a; intro a E
      refine Run.assign rfl E rfl rfl rfl ?_; clear E a; intro a E
      refine Run.nil ?_
      refine then_n ?_
      refine wp_ret ?_
      refine blk_r ?_
      refine then_r ?_
      refine then_r ?_
      refine blk_r ?_
      refine then_r ?_
      exact ret1 E Try.results113 rfl ⟨(i : Int), rfl, S.belT, by rw [okCap_false hlt hc]; simp⟩
    · skip
      replace E := E.setb 16 rfl (show (!okCap l[i]) = false by rw [hc]; rfl)
      refine Run.nil ?_
      refine then_n ?_
      refine cond_F E rfl ?_
      refine wp_skip ?_
      refine blk_n ?_
      refine then_n ?_
      refine region_plain (n := 2) [(0, .p), (1, .p)] rfl rfl ?_
      refine Run.add rfl E rfl rfl rfl rfl (i64_ok (by omega)) ?_; clear E a; intro a E
      refine Run.move rfl E rfl rfl rfl ?_; clear E a; intro a E
      refine Run.nil ?_
      refine then_n ?_
      replace E := E.setv 8 rfl (show Value.int .i64 ((i : Int) + 1) = .int .i64 ((i + 1 : Nat) : Int) from rfl)
      exact ⟨_, (by omega), (i + 1), rfl, E.keeps [(0, _), (1, _), (7, _), (8, _)] ⟨rfl, rfl, rfl, rfl, trivial⟩, S, (fun j hj hji => by by_cases e : j = i; subst e; exact hc; exact hp j hj (by omega))⟩
  · skip
    refine Run.lss rfl E rfl rfl rfl rfl (decide_eq_false (by omega)) ?_; clear E a; intro a E
    refine Run.nil ?_
    refine then_n ?_
    refine wp_seq ?_
    refine cond_F E rfl ?_
    refine wp_exit ?_
    refine then_x ?_
    refine then_x ?_
    refine blk_x ?_
    refine then_n ?_
    refine wp_seq ?_
    refine region_plain (n := 1) [(0, .p)] rfl rfl ?_
    refine Run.assign rfl E rfl rfl rfl ?_; clear E a; intro a E
    refine Run.nil ?_
    refine then_n ?_
    refine wp_ret ?_
    exact ret1 E Try.results113 rfl ⟨-1, rfl, S.belT, by rw [okCap_all hp (by omega)]; decide⟩

theorem containsf_walk (H1 : Rd w0 A l.length 1 (ints l)) (hl : l.length ≤ 140737488355328) : Calls Try.prog 87 [.slice A l.length c, .func (.func 88) #[] #[]].toArray w0 (fun r w' => r = .returned (.bool (!(l.all okCap))) ∧ Bel w0 w') := by
  have S := St.nil [] w0
  refine fn_start Try.func87 rfl 9 rfl rfl [(0, _), (1, _)] ⟨rfl, rfl, trivial⟩ ?_; intro a E
  refine wp_seq ?_
  refine region_plain (n := 1) [(0, .p)] rfl rfl ?_
  refine Run.assign rfl E rfl rfl rfl ?_; clear E a; intro a E
  refine Run.nil ?_
  refine then_n ?_
  refine wp_seq ?_
  refine region_plain (n := 5) [(0, .p), (1, .p), (2, .e), (3, .p), (4, .p)] rfl rfl ?_
  refine Run.move rfl E rfl rfl rfl ?_; clear E a; intro a E
  refine Run.move rfl E rfl rfl rfl ?_; clear E a; intro a E
  refine Run.call (args := [.slice A l.length c, .func (.func 88) #[] #[]]) rfl rfl E rfl rfl Try.func113 nm113 rfl rfl (indexf_walk (H1.bel S.belT) hl) ?_; rintro e_ w ⟨j, rfl, B_, hj⟩; refine ⟨_, rfl, fun _ => B_, ?_⟩; clear E a; replace S := S.bel B_; intro a E; clear B_
  refine Run.geq rfl E rfl rfl rfl rfl rfl ?_; clear E a; intro a E
  refine Run.assign rfl E rfl rfl rfl ?_; clear E a; intro a E
  refine Run.nil ?_
  refine then_n ?_
  refine wp_ret ?_
  exact ret1 E Try.results87 rfl ⟨by rw [hj], S.belT⟩

theorem right_walk {g : Int} (H1 : Rd w0 A s.caps.length 1 (ints s.caps)) (hl : s.caps.length ≤ 140737488355328) : Calls Try.prog 26 [.agg #[.int .i64 s.kind, .int .i64 s.node, .int .i64 s.phase, .int .i64 s.pos, .int .i64 s.start, .int .i64 s.depth, .int .i64 s.org, .slice A s.caps.length c], .int .i64 g].toArray w0 (fun r w' => r = .returned (.bool (decide (s.Right g))) ∧ Bel w0 w') := by
  have S := St.nil [] w0
  refine fn_start Try.func26 rfl 62 rfl rfl [(0, _), (1, _)] ⟨rfl, rfl, trivial⟩ ?_; intro a E
  refine wp_seq ?_
  refine region_plain (n := 2) [(0, .e), (1, .p)] rfl rfl ?_
  refine Run.box (cs := [.int .i64 s.kind, .int .i64 s.node, .int .i64 s.phase, .int .i64 s.pos, .int .i64 s.start, .int .i64 s.depth, .int .i64 s.org, .slice A s.caps.length c]) rfl rfl E S rfl rfl rfl rfl ?_; clear E a S; intro b1 w a E S B_; clear B_
  refine Run.assign rfl E rfl rfl rfl ?_; clear E a; intro a E
  refine Run.nil ?_
  refine then_n ?_
  refine wp_seq ?_
  refine wp_seq ?_
  refine region_plain (n := 12) [(0, .p), (1, .e), (2, .p), (3, .p), (4, .p), (5, .l), (6, .p), (7, .p), (8, .p), (9, .p), (10, .p), (11, .p)] rfl rfl ?_
  refine Run.move rfl E rfl rfl rfl ?_; clear E a; intro a E
  refine Run.call (args := [.int .i64 g, .int .i64 0, .int .i64 99]) rfl rfl E rfl rfl Try.func86 nm86 rfl rfl (within_walk (x := g) (lo := 0) (hi := 99)) ?_; rintro e_ w ⟨rfl, B_⟩; refine ⟨_, rfl, fun _ => B_, ?_⟩; clear E a; replace S := S.bel B_; intro a E
  clear B_
  by_cases kg : 0 ≤ g ∧ g ≤ 99
  · skip
    replace E := E.setb 9 rfl (decide_eq_true kg)
    refine Run.not rfl E rfl rfl rfl rfl ?_; clear E a; intro a E
    refine Run.move rfl E rfl rfl rfl ?_; clear E a; intro a E
    refine Run.fieldAddr rfl E rfl rfl rfl fo34_7 (rfl) ?_; clear E a; intro a E
    refine Run.load1 rfl rfl E S rfl rfl rfl one32 (fun _ s => s.objCell 0 7 rfl rfl) ?_; clear E a; intro a E
    refine Run.len rfl E rfl rfl rfl Try.underlying32 ?_; clear E a; intro a E
    refine Run.move rfl E rfl rfl rfl ?_; clear E a; intro a E
    refine Run.add rfl E rfl rfl rfl rfl (i64_ok (by omega)) ?_; clear E a; intro a E
    refine Run.mul rfl E rfl rfl rfl rfl (i64_ok (by omega)) ?_; clear E a; intro a E
    by_cases hn : (s.caps.length : Int) ≠ 2 * (g + 1)
    · skip
      refine Run.nei rfl E rfl rfl rfl rfl (decide_eq_true (by omega)) ?_; clear E a; intro a E
      refine Run.pickF rfl E rfl rfl rfl rfl ?_; clear E a; intro a E
      refine Run.nil ?_
      refine then_n ?_
      refine cond_T E rfl ?_
      refine wp_seq ?_
      refine region_plain (n := 1) [(0, .p)] rfl rfl ?_
      refine Run.assign rfl E rfl rfl rfl ?_; clear E a; intro a E
      refine Run.nil ?_
      refine then_n ?_
      refine wp_ret ?_
      refine then_r ?_
      refine ret1 E Try.results26 rfl ⟨?_, S.belT⟩; congr 2; symm; refine decide_eq_false (fun h => ?_); unfold Sta.Right at h; first | exact kg h.1 | exact hn h.2.1 | exact q1 h.2.2.1 | exact q2 h.2.2.2.1 | exact q3 h.2.2.2.2.1
    · skip
      refine Run.nei rfl E rfl rfl rfl rfl (decide_eq_false (by omega)) ?_; clear E a; intro a E
      refine Run.pickF rfl E rfl rfl rfl rfl ?_; clear E a; intro a E
      refine Run.nil ?_
      refine then_n ?_
      refine cond_F E rfl ?_
      refine wp_skip ?_
      refine then_n ?_
      refine wp_mid (fun a w => Env 62 [(2, .pointer (some ⟨b1, 0, none⟩)), (4, .bool false), (5, .bool (decide s.what))] a ∧ St [] w0 w [.obj b1 34 [.int .i64 s.kind, .int .i64 s.node, .int .i64 s.phase, .int .i64 s.pos, .int .i64 s.start, .int .i64 s.depth, .int .i64 s.org, .slice A s.caps.length c]]) ?_ ?_
      · skip
        refine region_plain (n := 14) [(0, .p), (1, .l), (2, .e), (3, .p), (4, .p), (5, .l), (6, .e), (7, .p), (8, .p), (9, .p), (10, .l), (11, .e), (12, .p), (13, .p)] rfl rfl ?_
        refine Run.fieldAddr rfl E rfl rfl rfl fo34_0 (rfl) ?_; clear E a; intro a E
        refine Run.load1 rfl rfl E S rfl rfl rfl one3 (fun _ s => s.objCell 0 0 rfl rfl) ?_; clear E a; intro a E
        refine Run.call (args := [.int .i64 s.kind, .int .i64 1, .int .i64 14]) rfl rfl E rfl rfl Try.func86 nm86 rfl rfl (within_walk (x := s.kind) (lo := 1) (hi := 14)) ?_; rintro e_ w ⟨rfl, B_⟩; refine ⟨_, rfl, fun _ => B_, ?_⟩; clear E a; replace S := S.bel B_; intro a E
        clear B_
        by_cases k1 : 1 ≤ s.kind ∧ s.kind ≤ 14
        · skip
          replace E := E.setb 22 rfl (decide_eq_true k1)
          refine Run.move rfl E rfl rfl rfl ?_; clear E a; intro a E
          refine Run.fieldAddr rfl E rfl rfl rfl fo34_1 (rfl) ?_; clear E a; intro a E
          refine Run.load1 rfl rfl E S rfl rfl rfl one3 (fun _ s => s.objCell 0 1 rfl rfl) ?_; clear E a; intro a E
          refine Run.call (args := [.int .i64 s.node, .int .i64 0, .int .i64 16384]) rfl rfl E rfl rfl Try.func86 nm86 rfl rfl (within_walk (x := s.node) (lo := 0) (hi := 16384)) ?_; rintro e_ w ⟨rfl, B_⟩; refine ⟨_, rfl, fun _ => B_, ?_⟩; clear E a; replace S := S.bel B_; intro a E
          clear B_
          by_cases k2 : 0 ≤ s.node ∧ s.node ≤ 16384
          · skip
            replace E := E.setb 26 rfl (decide_eq_true k2)
            refine Run.pickT rfl E rfl rfl rfl rfl ?_; clear E a; intro a E
            refine Run.move rfl E rfl rfl rfl ?_; clear E a; intro a E
            refine Run.fieldAddr rfl E rfl rfl rfl fo34_2 (rfl) ?_; clear E a; intro a E
            refine Run.load1 rfl rfl E S rfl rfl rfl one3 (fun _ s => s.objCell 0 2 rfl rfl) ?_; clear E a; intro a E
            refine Run.call (args := [.int .i64 s.phase, .int .i64 0, .int .i64 16384]) rfl rfl E rfl rfl Try.func86 nm86 rfl rfl (within_walk (x := s.phase) (lo := 0) (hi := 16384)) ?_; rintro e_ w ⟨rfl, B_⟩; refine ⟨_, rfl, fun _ => B_, ?_⟩; clear E a; replace S := S.bel B_; intro a E
            clear B_
            by_cases k3 : 0 ≤ s.phase ∧ s.phase ≤ 16384
            · skip
              replace E := E.setb 31 rfl (decide_eq_true k3)
              refine Run.pickT rfl E rfl rfl rfl rfl ?_; clear E a; intro a E
              refine Run.assign rfl E rfl rfl rfl ?_; clear E a; intro a E
              refine Run.nil ?_
              refine then_n ?_
              replace E := E.setb 5 rfl (show true = decide s.what by unfold Sta.what; first | exact (decide_eq_true ⟨k1, k2, k3⟩).symm | exact (decide_eq_false (fun h => k1 h.1)).symm | exact (decide_eq_false (fun h => k2 h.2.1)).symm | exact (decide_eq_false (fun h => k3 h.2.2)).symm)
              exact ⟨E.keeps [(2, _), (4, _), (5, _)] ⟨rfl, rfl, rfl, trivial⟩, S⟩
            · skip
              replace E := E.setb 31 rfl (decide_eq_false k3)
              refine Run.pickT rfl E rfl rfl rfl rfl ?_; clear E a; intro a E
              refine Run.assign rfl E rfl rfl rfl ?_; clear E a; intro a E
              refine Run.nil ?_
              refine then_n ?_
              replace E := E.setb 5 rfl (show false = decide s.what by unfold Sta.what; first | exact (decide_eq_true ⟨k1, k2, k3⟩).symm | exact (decide_eq_false (fun h => k1 h.1)).symm | exact (decide_eq_false (fun h => k2 h.2.1)).symm | exact (decide_eq_false (fun h => k3 h.2.2)).symm)
              exact ⟨E.keeps [(2, _), (4, _), (5, _)] ⟨rfl, rfl, rfl, trivial⟩, S⟩
          · skip
            replace E := E.setb 26 rfl (decide_eq_false k2)
            refine Run.pickT rfl E rfl rfl rfl rfl ?_; clear E a; intro a E
            refine Run.move rfl E rfl rfl rfl ?_; clear E a; intro a E
            refine Run.off rfl E rfl rfl ?_; clear E a; intro a E
            refine Run.off rfl E rfl rfl ?_; clear E a; intro a E
            refine Run.off rfl E rfl rfl ?_; clear E a; intro a E
            refine Run.pickF rfl E rfl rfl rfl rfl ?_; clear E a; intro a E
            refine Run.assign rfl E rfl rfl rfl ?_; clear E a; intro a E
            refine Run.nil ?_
            refine then_n ?_
            replace E := E.setb 5 rfl (show false = decide s.what by unfold Sta.what; first | exact (decide_eq_true ⟨k1, k2, k3⟩).symm | exact (decide_eq_false (fun h => k1 h.1)).symm | exact (decide_eq_false (fun h => k2 h.2.1)).symm | exact (decide_eq_false (fun h => k3 h.2.2)).symm)
            exact ⟨E.keeps [(2, _), (4, _), (5, _)] ⟨rfl, rfl, rfl, trivial⟩, S⟩
        · skip
          replace E := E.setb 22 rfl (decide_eq_false k1)
          refine Run.move rfl E rfl rfl rfl ?_; clear E a; intro a E
          refine Run.off rfl E rfl rfl ?_; clear E a; intro a E
          refine Run.off rfl E rfl rfl ?_; clear E a; intro a E
          refine Run.off rfl E rfl rfl ?_; clear E a; intro a E
          refine Run.pickF rfl E rfl rfl rfl rfl ?_; clear E a; intro a E
          refine Run.move rfl E rfl rfl rfl ?_; clear E a; intro a E
          refine Run.off rfl E rfl rfl ?_; clear E a; intro a E
          refine Run.off rfl E rfl rfl ?_; clear E a; intro a E
          refine Run.off rfl E rfl rfl ?_; clear E a; intro a E
          refine Run.pickF rfl E rfl rfl rfl rfl ?_; clear E a; intro a E
          refine Run.assign rfl E rfl rfl rfl ?_; clear E a; intro a E
          refine Run.nil ?_
          refine then_n ?_
          replace E := E.setb 5 rfl (show false = decide s.what by unfold Sta.what; first | exact (decide_eq_true ⟨k1, k2, k3⟩).symm | exact (decide_eq_false (fun h => k1 h.1)).symm | exact (decide_eq_false (fun h => k2 h.2.1)).symm | exact (decide_eq_false (fun h => k3 h.2.2)).symm)
          exact ⟨E.keeps [(2, _), (4, _), (5, _)] ⟨rfl, rfl, rfl, trivial⟩, S⟩
      clear E a S
      rintro a w ⟨E, S⟩
      refine wp_mid (fun a w => Env 62 [(2, .pointer (some ⟨b1, 0, none⟩)), (4, .bool false), (5, .bool (decide s.what)), (6, .bool (decide s.wher))] a ∧ St [] w0 w [.obj b1 34 [.int .i64 s.kind, .int .i64 s.node, .int .i64 s.phase, .int .i64 s.pos, .int .i64 s.start, .int .i64 s.depth, .int .i64 s.org, .slice A s.caps.length c]]) ?_ ?_
      · skip
        refine region_plain (n := 9) [(0, .p), (1, .l), (2, .e), (3, .p), (4, .p), (5, .l), (6, .e), (7, .p), (8, .p)] rfl rfl ?_
        refine Run.fieldAddr rfl E rfl rfl rfl fo34_3 (rfl) ?_; clear E a; intro a E
        refine Run.load1 rfl rfl E S rfl rfl rfl one3 (fun _ s => s.objCell 0 3 rfl rfl) ?_; clear E a; intro a E
        refine Run.call (args := [.int .i64 s.pos, .int .i64 0, .int .i64 65536]) rfl rfl E rfl rfl Try.func86 nm86 rfl rfl (within_walk (x := s.pos) (lo := 0) (hi := 65536)) ?_; rintro e_ w ⟨rfl, B_⟩; refine ⟨_, rfl, fun _ => B_, ?_⟩; clear E a; replace S := S.bel B_; intro a E
        clear B_
        by_cases k4 : 0 ≤ s.pos ∧ s.pos ≤ 65536
        · skip
          replace E := E.setb 35 rfl (decide_eq_true k4)
          refine Run.move rfl E rfl rfl rfl ?_; clear E a; intro a E
          refine Run.fieldAddr rfl E rfl rfl rfl fo34_4 (rfl) ?_; clear E a; intro a E
          refine Run.load1 rfl rfl E S rfl rfl rfl one3 (fun _ s => s.objCell 0 4 rfl rfl) ?_; clear E a; intro a E
          refine Run.call (args := [.int .i64 s.start, .int .i64 0, .int .i64 65536]) rfl rfl E rfl rfl Try.func86 nm86 rfl rfl (within_walk (x := s.start) (lo := 0) (hi := 65536)) ?_; rintro e_ w ⟨rfl, B_⟩; refine ⟨_, rfl, fun _ => B_, ?_⟩; clear E a; replace S := S.bel B_; intro a E
          clear B_
          by_cases k5 : 0 ≤ s.start ∧ s.start ≤ 65536
          · skip
            replace E := E.setb 39 rfl (decide_eq_true k5)
            refine Run.pickT rfl E rfl rfl rfl rfl ?_; clear E a; intro a E
            refine Run.assign rfl E rfl rfl rfl ?_; clear E a; intro a E
            refine Run.nil ?_
            refine then_n ?_
            replace E := E.setb 6 rfl (show true = decide s.wher by unfold Sta.wher; first | exact (decide_eq_true ⟨k4, k5⟩).symm | exact (decide_eq_false (fun h => k4 h.1)).symm | exact (decide_eq_false (fun h => k5 h.2)).symm)
            exact ⟨E.keeps [(2, _), (4, _), (5, _), (6, _)] ⟨rfl, rfl, rfl, rfl, trivial⟩, S⟩
          · skip
            replace E := E.setb 39 rfl (decide_eq_false k5)
            refine Run.pickT rfl E rfl rfl rfl rfl ?_; clear E a; intro a E
            refine Run.assign rfl E rfl rfl rfl ?_; clear E a; intro a E
            refine Run.nil ?_
            refine then_n ?_
            replace E := E.setb 6 rfl (show false = decide s.wher by unfold Sta.wher; first | exact (decide_eq_true ⟨k4, k5⟩).symm | exact (decide_eq_false (fun h => k4 h.1)).symm | exact (decide_eq_false (fun h => k5 h.2)).symm)
            exact ⟨E.keeps [(2, _), (4, _), (5, _), (6, _)] ⟨rfl, rfl, rfl, rfl, trivial⟩, S⟩
        · skip
          replace E := E.setb 35 rfl (decide_eq_false k4)
          refine Run.move rfl E rfl rfl rfl ?_; clear E a; intro a E
          refine Run.off rfl E rfl rfl ?_; clear E a; intro a E
          refine Run.off rfl E rfl rfl ?_; clear E a; intro a E
          refine Run.off rfl E rfl rfl ?_; clear E a; intro a E
          refine Run.pickF rfl E rfl rfl rfl rfl ?_; clear E a; intro a E
          refine Run.assign rfl E rfl rfl rfl ?_; clear E a; intro a E
          refine Run.nil ?_
          refine then_n ?_
          replace E := E.setb 6 rfl (show false = decide s.wher by unfold Sta.wher; first | exact (decide_eq_true ⟨k4, k5⟩).symm | exact (decide_eq_false (fun h => k4 h.1)).symm | exact (decide_eq_false (fun h => k5 h.2)).symm)
          exact ⟨E.keeps [(2, _), (4, _), (5, _), (6, _)] ⟨rfl, rfl, rfl, rfl, trivial⟩, S⟩
      clear E a S
      rintro a w ⟨E, S⟩
      refine wp_mid (fun a w => Env 62 [(2, .pointer (some ⟨b1, 0, none⟩)), (4, .bool false), (5, .bool (decide s.what)), (6, .bool (decide s.wher)), (7, .bool (decide s.far))] a ∧ St [] w0 w [.obj b1 34 [.int .i64 s.kind, .int .i64 s.node, .int .i64 s.phase, .int .i64 s.pos, .int .i64 s.start, .int .i64 s.depth, .int .i64 s.org, .slice A s.caps.length c]]) ?_ ?_
      · skip
        refine region_plain (n := 9) [(0, .p), (1, .l), (2, .e), (3, .p), (4, .p), (5, .l), (6, .e), (7, .p), (8, .p)] rfl rfl ?_
        refine Run.fieldAddr rfl E rfl rfl rfl fo34_5 (rfl) ?_; clear E a; intro a E
        refine Run.load1 rfl rfl E S rfl rfl rfl one3 (fun _ s => s.objCell 0 5 rfl rfl) ?_; clear E a; intro a E
        refine Run.call (args := [.int .i64 s.depth, .int .i64 0, .int .i64 65536]) rfl rfl E rfl rfl Try.func86 nm86 rfl rfl (within_walk (x := s.depth) (lo := 0) (hi := 65536)) ?_; rintro e_ w ⟨rfl, B_⟩; refine ⟨_, rfl, fun _ => B_, ?_⟩; clear E a; replace S := S.bel B_; intro a E
        clear B_
        by_cases k6 : 0 ≤ s.depth ∧ s.depth ≤ 65536
        · skip
          replace E := E.setb 43 rfl (decide_eq_true k6)
          refine Run.move rfl E rfl rfl rfl ?_; clear E a; intro a E
          refine Run.fieldAddr rfl E rfl rfl rfl fo34_6 (rfl) ?_; clear E a; intro a E
          refine Run.load1 rfl rfl E S rfl rfl rfl one3 (fun _ s => s.objCell 0 6 rfl rfl) ?_; clear E a; intro a E
          refine Run.call (args := [.int .i64 s.org, .int .i64 (-1), .int .i64 1048576]) rfl rfl E rfl rfl Try.func86 nm86 rfl rfl (within_walk (x := s.org) (lo := -1) (hi := 1048576)) ?_; rintro e_ w ⟨rfl, B_⟩; refine ⟨_, rfl, fun _ => B_, ?_⟩; clear E a; replace S := S.bel B_; intro a E
          clear B_
          by_cases k7 : -1 ≤ s.org ∧ s.org ≤ 1048576
          · skip
            replace E := E.setb 47 rfl (decide_eq_true k7)
            refine Run.pickT rfl E rfl rfl rfl rfl ?_; clear E a; intro a E
            refine Run.assign rfl E rfl rfl rfl ?_; clear E a; intro a E
            refine Run.nil ?_
            refine then_n ?_
            replace E := E.setb 7 rfl (show true = decide s.far by unfold Sta.far; first | exact (decide_eq_true ⟨k6, k7⟩).symm | exact (decide_eq_false (fun h => k6 h.1)).symm | exact (decide_eq_false (fun h => k7 h.2)).symm)
            exact ⟨E.keeps [(2, _), (4, _), (5, _), (6, _), (7, _)] ⟨rfl, rfl, rfl, rfl, rfl, trivial⟩, S⟩
          · skip
            replace E := E.setb 47 rfl (decide_eq_false k7)
            refine Run.pickT rfl E rfl rfl rfl rfl ?_; clear E a; intro a E
            refine Run.assign rfl E rfl rfl rfl ?_; clear E a; intro a E
            refine Run.nil ?_
            refine then_n ?_
            replace E := E.setb 7 rfl (show false = decide s.far by unfold Sta.far; first | exact (decide_eq_true ⟨k6, k7⟩).symm | exact (decide_eq_false (fun h => k6 h.1)).symm | exact (decide_eq_false (fun h => k7 h.2)).symm)
            exact ⟨E.keeps [(2, _), (4, _), (5, _), (6, _), (7, _)] ⟨rfl, rfl, rfl, rfl, rfl, trivial⟩, S⟩
        · skip
          replace E := E.setb 43 rfl (decide_eq_false k6)
          refine Run.move rfl E rfl rfl rfl ?_; clear E a; intro a E
          refine Run.off rfl E rfl rfl ?_; clear E a; intro a E
          refine Run.off rfl E rfl rfl ?_; clear E a; intro a E
          refine Run.off rfl E rfl rfl ?_; clear E a; intro a E
          refine Run.pickF rfl E rfl rfl rfl rfl ?_; clear E a; intro a E
          refine Run.assign rfl E rfl rfl rfl ?_; clear E a; intro a E
          refine Run.nil ?_
          refine then_n ?_
          replace E := E.setb 7 rfl (show false = decide s.far by unfold Sta.far; first | exact (decide_eq_true ⟨k6, k7⟩).symm | exact (decide_eq_false (fun h => k6 h.1)).symm | exact (decide_eq_false (fun h => k7 h.2)).symm)
          exact ⟨E.keeps [(2, _), (4, _), (5, _), (6, _), (7, _)] ⟨rfl, rfl, rfl, rfl, rfl, trivial⟩, S⟩
      clear E a S
      rintro a w ⟨E, S⟩
      refine wp_seq ?_
      refine region_plain (n := 14) [(0, .p), (1, .p), (2, .p), (3, .p), (4, .p), (5, .p), (6, .p), (7, .p), (8, .p), (9, .l), (10, .e), (11, .p), (12, .p), (13, .p)] rfl rfl ?_
      by_cases q1 : s.what
      · skip
        replace E := E.setb 5 rfl (decide_eq_true q1)
        refine Run.move rfl E rfl rfl rfl ?_; clear E a; intro a E
        refine Run.move rfl E rfl rfl rfl ?_; clear E a; intro a E
        by_cases q2 : s.wher
        · skip
          replace E := E.setb 6 rfl (decide_eq_true q2)
          refine Run.move rfl E rfl rfl rfl ?_; clear E a; intro a E
          refine Run.pickT rfl E rfl rfl rfl rfl ?_; clear E a; intro a E
          refine Run.move rfl E rfl rfl rfl ?_; clear E a; intro a E
          by_cases q3 : s.far
          · skip
            replace E := E.setb 7 rfl (decide_eq_true q3)
            refine Run.move rfl E rfl rfl rfl ?_; clear E a; intro a E
            refine Run.pickT rfl E rfl rfl rfl rfl ?_; clear E a; intro a E
            refine Run.move rfl E rfl rfl rfl ?_; clear E a; intro a E
            refine Run.fieldAddr rfl E rfl rfl rfl fo34_7 (rfl) ?_; clear E a; intro a E
            refine Run.load1 rfl rfl E S rfl rfl rfl one32 (fun _ s => s.objCell 0 7 rfl rfl) ?_; clear E a; intro a E
            refine Run.call (args := [.slice A s.caps.length c, .func (.func 88) #[] #[]]) rfl rfl E rfl rfl Try.func87 nm87 rfl rfl (containsf_walk (l := s.caps) (H1.bel S.belT) hl) ?_; rintro e_ w ⟨rfl, B_⟩; refine ⟨_, rfl, fun _ => B_, ?_⟩; clear E a; replace S := S.bel B_; intro a E
            clear B_
            refine Run.not rfl E rfl rfl rfl rfl ?_; clear E a; intro a E
            refine Run.pickT rfl E rfl rfl rfl rfl ?_; clear E a; intro a E
            refine Run.assign rfl E rfl rfl rfl ?_; clear E a; intro a E
            refine Run.nil ?_
            refine then_n ?_
            refine wp_ret ?_
            refine ret1 E Try.results26 rfl ⟨?_, S.belT⟩; congr 2; rw [Bool.not_not, Bool.eq_iff_iff, decide_eq_true_iff]; exact ⟨fun h => ⟨kg, by omega, q1, q2, q3, h⟩, fun h => h.2.2.2.2.2⟩
          · skip
            replace E := E.setb 7 rfl (decide_eq_false q3)
            refine Run.move rfl E rfl rfl rfl ?_; clear E a; intro a E
            refine Run.pickT rfl E rfl rfl rfl rfl ?_; clear E a; intro a E
            refine Run.move rfl E rfl rfl rfl ?_; clear E a; intro a E
            refine Run.off rfl E rfl rfl ?_; clear E a; intro a E
            refine Run.off rfl E rfl rfl ?_; clear E a; intro a E
            refine Run.off rfl E rfl rfl ?_; clear E a; intro a E
            refine Run.off rfl E rfl rfl ?_; clear E a; intro a E
            refine Run.pickF rfl E rfl rfl rfl rfl ?_; clear E a; intro a E
            refine Run.assign rfl E rfl rfl rfl ?_; clear E a; intro a E
            refine Run.nil ?_
            refine then_n ?_
            refine wp_ret ?_
            refine ret1 E Try.results26 rfl ⟨?_, S.belT⟩; congr 2; symm; refine decide_eq_false (fun h => ?_); unfold Sta.Right at h; first | exact kg h.1 | exact hn h.2.1 | exact q1 h.2.2.1 | exact q2 h.2.2.2.1 | exact q3 h.2.2.2.2.1
        · skip
          replace E := E.setb 6 rfl (decide_eq_false q2)
          refine Run.move rfl E rfl rfl rfl ?_; clear E a; intro a E
          refine Run.pickT rfl E rfl rfl rfl rfl ?_; clear E a; intro a E
          refine Run.move rfl E rfl rfl rfl ?_; clear E a; intro a E
          refine Run.off rfl E rfl rfl ?_; clear E a; intro a E
          refine Run.pickF rfl E rfl rfl rfl rfl ?_; clear E a; intro a E
          refine Run.move rfl E rfl rfl rfl ?_; clear E a; intro a E
          refine Run.off rfl E rfl rfl ?_; clear E a; intro a E
          refine Run.off rfl E rfl rfl ?_; clear E a; intro a E
          refine Run.off rfl E rfl rfl ?_; clear E a; intro a E
          refine Run.off rfl E rfl rfl ?_; clear E a; intro a E
          refine Run.pickF rfl E rfl rfl rfl rfl ?_; clear E a; intro a E
          refine Run.assign rfl E rfl rfl rfl ?_; clear E a; intro a E
          refine Run.nil ?_
          refine then_n ?_
          refine wp_ret ?_
          refine ret1 E Try.results26 rfl ⟨?_, S.belT⟩; congr 2; symm; refine decide_eq_false (fun h => ?_); unfold Sta.Right at h; first | exact kg h.1 | exact hn h.2.1 | exact q1 h.2.2.1 | exact q2 h.2.2.2.1 | exact q3 h.2.2.2.2.1
      · skip
        replace E := E.setb 5 rfl (decide_eq_false q1)
        refine Run.move rfl E rfl rfl rfl ?_; clear E a; intro a E
        refine Run.move rfl E rfl rfl rfl ?_; clear E a; intro a E
        refine Run.off rfl E rfl rfl ?_; clear E a; intro a E
        refine Run.pickF rfl E rfl rfl rfl rfl ?_; clear E a; intro a E
        refine Run.move rfl E rfl rfl rfl ?_; clear E a; intro a E
        refine Run.off rfl E rfl rfl ?_; clear E a; intro a E
        refine Run.pickF rfl E rfl rfl rfl rfl ?_; clear E a; intro a E
        refine Run.move rfl E rfl rfl rfl ?_; clear E a; intro a E
        refine Run.off rfl E rfl rfl ?_; clear E a; intro a E
        refine Run.off rfl E rfl rfl ?_; clear E a; intro a E
        refine Run.off rfl E rfl rfl ?_; clear E a; intro a E
        refine Run.off rfl E rfl rfl ?_; clear E a; intro a E
        refine Run.pickF rfl E rfl rfl rfl rfl ?_; clear E a; intro a E
        refine Run.assign rfl E rfl rfl rfl ?_; clear E a; intro a E
        refine Run.nil ?_
        refine then_n ?_
        refine wp_ret ?_
        refine ret1 E Try.results26 rfl ⟨?_, S.belT⟩; congr 2; symm; refine decide_eq_false (fun h => ?_); unfold Sta.Right at h; first | exact kg h.1 | exact hn h.2.1 | exact q1 h.2.2.1 | exact q2 h.2.2.2.1 | exact q3 h.2.2.2.2.1
  · skip
    replace E := E.setb 9 rfl (decide_eq_false kg)
    refine Run.not rfl E rfl rfl rfl rfl ?_; clear E a; intro a E
    refine Run.move rfl E rfl rfl rfl ?_; clear E a; intro a E
    refine Run.off rfl E rfl rfl ?_; clear E a; intro a E
    refine Run.off rfl E rfl rfl ?_; clear E a; intro a E
    refine Run.off rfl E rfl rfl ?_; clear E a; intro a E
    refine Run.off rfl E rfl rfl ?_; clear E a; intro a E
    refine Run.off rfl E rfl rfl ?_; clear E a; intro a E
    refine Run.off rfl E rfl rfl ?_; clear E a; intro a E
    refine Run.off rfl E rfl rfl ?_; clear E a; intro a E
    refine Run.pickT rfl E rfl rfl rfl rfl ?_; clear E a; intro a E
    refine Run.nil ?_
    refine then_n ?_
    refine cond_T E rfl ?_
    refine wp_seq ?_
    refine region_plain (n := 1) [(0, .p)] rfl rfl ?_
    refine Run.assign rfl E rfl rfl rfl ?_; clear E a; intro a E
    refine Run.nil ?_
    refine then_n ?_
    refine wp_ret ?_
    refine then_r ?_
    refine ret1 E Try.results26 rfl ⟨?_, S.belT⟩; congr 2; symm; refine decide_eq_false (fun h => ?_); unfold Sta.Right at h; first | exact kg h.1 | exact hn h.2.1 | exact q1 h.2.2.1 | exact q2 h.2.2.2.1 | exact q3 h.2.2.2.2.1

theorem groups_walk (hl : s.caps.length ≤ 140737488355328) : Calls Try.prog 96 [.agg #[.int .i64 s.kind, .int .i64 s.node, .int .i64 s.phase, .int .i64 s.pos, .int .i64 s.start, .int .i64 s.depth, .int .i64 s.org, .slice A s.caps.length c]].toArray w0 (fun r w' => r = .returned (.int .i64 s.groups) ∧ Bel w0 w') := by
  have S := St.nil [] w0
  refine fn_start Try.func96 rfl 8 rfl rfl [(0, _)] ⟨rfl, trivial⟩ ?_; intro a E
  refine wp_seq ?_
  refine region_plain (n := 2) [(0, .e), (1, .p)] rfl rfl ?_
  refine Run.box (cs := [.int .i64 s.kind, .int .i64 s.node, .int .i64 s.phase, .int .i64 s.pos, .int .i64 s.start, .int .i64 s.depth, .int .i64 s.org, .slice A s.caps.length c]) rfl rfl E S rfl rfl rfl rfl ?_; clear E a S; intro b1 w a E S B_; clear B_
  refine Run.assign rfl E rfl rfl rfl ?_; clear E a; intro a E
  refine Run.nil ?_
  refine then_n ?_
  refine wp_seq ?_
  refine region_plain (n := 6) [(0, .p), (1, .l), (2, .p), (3, .p), (4, .p), (5, .p)] rfl rfl ?_
  refine Run.fieldAddr rfl E rfl rfl rfl fo34_7 (rfl) ?_; clear E a; intro a E
  refine Run.load1 rfl rfl E S rfl rfl rfl one32 (fun _ s => s.objCell 0 7 rfl rfl) ?_; clear E a; intro a E
  refine Run.len rfl E rfl rfl rfl Try.underlying32 ?_; clear E a; intro a E
  refine Run.quo rfl E rfl rfl rfl rfl (by decide) (IntWalk.i64_quo _ _ (by omega)) ?_; clear E a; intro a E
  refine Run.sub rfl E rfl rfl rfl rfl (i64_ok (by omega)) ?_; clear E a; intro a E
  refine Run.assign rfl E rfl rfl rfl ?_; clear E a; intro a E
  refine Run.nil ?_
  refine then_n ?_
  refine wp_ret ?_
  exact ret1 E Try.results96 rfl ⟨rfl, S.belT⟩

theorem blank_or {s : Sta} {k : Nat} (hR : ¬ s.Right s.groups) (hg : 0 ≤ s.groups) (hk : (k : Int) = min (max s.groups 0) 99) : decide (s = Sta.blank (2 * (k + 1))) = decide s.base := by
  rw [blank_same s hg hk]
  exact decide_eq_decide.2 ⟨.inr, fun h => h.resolve_left hR⟩

theorem dbase_walk (H1 : Rd w0 A s.caps.length 1 (ints s.caps)) (hl : s.caps.length ≤ 140737488355328) : Calls Try.prog 95 [.agg #[.int .i64 s.kind, .int .i64 s.node, .int .i64 s.phase, .int .i64 s.pos, .int .i64 s.start, .int .i64 s.depth, .int .i64 s.org, .slice A s.caps.length c]].toArray w0 (fun r w' => r = .returned (.bool (decide s.base)) ∧ Bel w0 w') := by
  have S := St.nil [] w0
  obtain ⟨k, hk⟩ : ∃ k : Nat, (k : Int) = min (max s.groups 0) 99 := ⟨(min (max s.groups 0) 99).toNat, by omega⟩
  refine fn_start Try.func95 rfl 19 rfl rfl [(0, _)] ⟨rfl, trivial⟩ ?_; intro a E
  refine wp_seq ?_
  refine region_plain (n := 2) [(0, .e), (1, .p)] rfl rfl ?_
  refine Run.box (cs := [.int .i64 s.kind, .int .i64 s.node, .int .i64 s.phase, .int .i64 s.pos, .int .i64 s.start, .int .i64 s.depth, .int .i64 s.org, .slice A s.caps.length c]) rfl rfl E S rfl rfl rfl rfl ?_; clear E a S; intro b1 w a E S B_; clear B_
  refine Run.assign rfl E rfl rfl rfl ?_; clear E a; intro a E
  refine Run.nil ?_
  refine then_n ?_
  refine wp_seq ?_
  refine region_drawS (n := 17) [(0, .t), (1, .t), (2, .e), (3, .e), (4, .p), (5, .t), (6, .e), (7, .p), (8, .p), (9, .t), (10, .t), (11, .e), (12, .e), (13, .e), (14, .p), (15, .p), (16, .p)] [0, 0, 2, 7, 15, 31, 63, 127, 255, 511, 511, 1535, 3583, 8191, 16383, 32767, 65535] S mixed rfl rfl (by kernel_rfl) (fun _ _ _ _ _ h => h) ?_; clear S; intro w S B_; clear B_
  refine Run.loadN (cs := [.int .i64 s.kind, .int .i64 s.node, .int .i64 s.phase, .int .i64 s.pos, .int .i64 s.start, .int .i64 s.depth, .int .i64 s.org, .slice A s.caps.length c]) rfl rfl E S rfl rfl rfl ag34 rfl (fun _ s => objAll s 0 rfl) ?_; clear E a; intro a E
  refine Run.loadN (cs := [.int .i64 s.kind, .int .i64 s.node, .int .i64 s.phase, .int .i64 s.pos, .int .i64 s.start, .int .i64 s.depth, .int .i64 s.org, .slice A s.caps.length c]) rfl rfl E S rfl rfl rfl ag34 rfl (fun _ s => objAll s 0 rfl) ?_; clear E a; intro a E
  refine Run.call (args := [.agg #[.int .i64 s.kind, .int .i64 s.node, .int .i64 s.phase, .int .i64 s.pos, .int .i64 s.start, .int .i64 s.depth, .int .i64 s.org, .slice A s.caps.length c]]) rfl rfl E rfl rfl Try.func96 nm96 rfl rfl (groups_walk (s := s) hl) ?_; rintro e_ w ⟨rfl, B_⟩; refine ⟨_, rfl, fun _ => B_, ?_⟩; clear E a; replace S := S.bel B_; intro a E
  clear B_
  refine Run.call (args := [.agg #[.int .i64 s.kind, .int .i64 s.node, .int .i64 s.phase, .int .i64 s.pos, .int .i64 s.start, .int .i64 s.depth, .int .i64 s.org, .slice A s.caps.length c], .int .i64 s.groups]) rfl rfl E rfl rfl Try.func26 nm26 rfl rfl (right_walk (s := s) (g := s.groups) (H1.bel S.belT) (hl)) ?_; rintro e_ w ⟨rfl, B_⟩; refine ⟨_, rfl, fun _ => B_, ?_⟩; clear E a; replace S := S.bel B_; intro a E
  clear B_
  by_cases hR : s.Right s.groups
  · skip
    replace E := E.setb 6 rfl (decide_eq_true hR)
    refine Run.move rfl E rfl rfl rfl ?_; clear E a; intro a E
    refine Run.off rfl E rfl rfl ?_; clear E a; intro a E
    refine Run.off rfl E rfl rfl ?_; clear E a; intro a E
    refine Run.off rfl E rfl rfl ?_; clear E a; intro a E
    refine Run.off rfl E rfl rfl ?_; clear E a; intro a E
    refine Run.off rfl E rfl rfl ?_; clear E a; intro a E
    refine Run.off rfl E rfl rfl ?_; clear E a; intro a E
    refine Run.off rfl E rfl rfl ?_; clear E a; intro a E
    refine Run.off rfl E rfl rfl ?_; clear E a; intro a E
    refine Run.off rfl E rfl rfl ?_; clear E a; intro a E
    refine Run.off rfl E rfl rfl ?_; clear E a; intro a E
    refine Run.pickT rfl E rfl rfl rfl rfl ?_; clear E a; intro a E
    refine Run.assign rfl E rfl rfl rfl ?_; clear E a; intro a E
    refine Run.nil ?_
    refine then_n ?_
    refine wp_ret ?_
    exact ret1 E Try.results95 rfl ⟨by rw [decide_eq_true (.inl hR)], S.belT⟩
  · skip
    replace E := E.setb 6 rfl (decide_eq_false hR)
    refine Run.move rfl E rfl rfl rfl ?_; clear E a; intro a E
    refine Run.loadN (cs := [.int .i64 s.kind, .int .i64 s.node, .int .i64 s.phase, .int .i64 s.pos, .int .i64 s.start, .int .i64 s.depth, .int .i64 s.org, .slice A s.caps.length c]) rfl rfl E S rfl rfl rfl ag34 rfl (fun _ s => objAll s 0 rfl) ?_; clear E a; intro a E
    refine Run.call (args := [.agg #[.int .i64 s.kind, .int .i64 s.node, .int .i64 s.phase, .int .i64 s.pos, .int .i64 s.start, .int .i64 s.depth, .int .i64 s.org, .slice A s.caps.length c]]) rfl rfl E rfl rfl Try.func96 nm96 rfl rfl (groups_walk (s := s) hl) ?_; rintro e_ w ⟨rfl, B_⟩; refine ⟨_, rfl, fun _ => B_, ?_⟩; clear E a; replace S := S.bel B_; intro a E
    clear B_
    by_cases hg : 0 ≤ s.groups
    · skip
      refine Run.geq rfl E rfl rfl rfl rfl (decide_eq_true (by omega)) ?_; clear E a; intro a E
      refine Run.move rfl E rfl rfl rfl ?_; clear E a; intro a E
      refine Run.loadN (cs := [.int .i64 s.kind, .int .i64 s.node, .int .i64 s.phase, .int .i64 s.pos, .int .i64 s.start, .int .i64 s.depth, .int .i64 s.org, .slice A s.caps.length c]) rfl rfl E S rfl rfl rfl ag34 rfl (fun _ s => objAll s 0 rfl) ?_; clear E a; intro a E
      refine Run.loadN (cs := [.int .i64 s.kind, .int .i64 s.node, .int .i64 s.phase, .int .i64 s.pos, .int .i64 s.start, .int .i64 s.depth, .int .i64 s.org, .slice A s.caps.length c]) rfl rfl E S rfl rfl rfl ag34 rfl (fun _ s => objAll s 0 rfl) ?_; clear E a; intro a E
      refine Run.call (args := [.agg #[.int .i64 s.kind, .int .i64 s.node, .int .i64 s.phase, .int .i64 s.pos, .int .i64 s.start, .int .i64 s.depth, .int .i64 s.org, .slice A s.caps.length c]]) rfl rfl E rfl rfl Try.func96 nm96 rfl rfl (groups_walk (s := s) hl) ?_; rintro e_ w ⟨rfl, B_⟩; refine ⟨_, rfl, fun _ => B_, ?_⟩; clear E a; replace S := S.bel B_; intro a E
      clear B_
      refine Run.call (args := [.int .i64 s.groups]) rfl rfl E rfl rfl Try.func78 nm78 rfl rfl (blank_walk (g := s.groups) (k := k) hk) ?_; rintro e_ w ⟨B2, d3, rfl, S_⟩; refine ⟨_, rfl, (fun _ => S_.belT), ?_⟩; clear E a; intro a E
      replace S : St _ _ _ [_, .obj _ _ [_, _, _, _, _, _, _, _]] := St.call (A := []) (R := [_]) S S_; clear S_
      have hbl : (Sta.blank (2 * (k + 1))).caps.length = 2 * (k + 1) := by simp [Sta.blank]
      have hsm := same_walk (s := s) (t := Sta.blank (2 * (k + 1))) (c := c) (d := d3) (H1.bel S.belT) (B := B2) (by rw [hbl]; exact S.rd 0 rfl) hl
      rw [hbl] at hsm
      refine Run.call (args := [.agg #[.int .i64 s.kind, .int .i64 s.node, .int .i64 s.phase, .int .i64 s.pos, .int .i64 s.start, .int .i64 s.depth, .int .i64 s.org, .slice A s.caps.length c], .agg #[.int .i64 0, .int .i64 0, .int .i64 0, .int .i64 0, .int .i64 0, .int .i64 0, .int .i64 (-1), .slice B2 (2 * (k + 1)) d3]]) rfl rfl E rfl rfl Try.func42 nm42 rfl rfl hsm ?_; rintro e_ w ⟨rfl, B_⟩; refine ⟨_, rfl, fun _ => B_, ?_⟩; clear E a; replace S := S.bel B_; intro a E; clear B_
      refine Run.pickT rfl E rfl rfl rfl rfl ?_; clear E a; intro a E
      refine Run.pickF rfl E rfl rfl rfl rfl ?_; clear E a; intro a E
      refine Run.assign rfl E rfl rfl rfl ?_; clear E a; intro a E
      refine Run.nil ?_
      refine then_n ?_
      refine wp_ret ?_
      exact ret1 E Try.results95 rfl ⟨by rw [blank_or hR hg hk], S.belT⟩
    · skip
      refine Run.geq rfl E rfl rfl rfl rfl (decide_eq_false (by omega)) ?_; clear E a; intro a E
      refine Run.move rfl E rfl rfl rfl ?_; clear E a; intro a E
      refine Run.off rfl E rfl rfl ?_; clear E a; intro a E
      refine Run.off rfl E rfl rfl ?_; clear E a; intro a E
      refine Run.off rfl E rfl rfl ?_; clear E a; intro a E
      refine Run.off rfl E rfl rfl ?_; clear E a; intro a E
      refine Run.off rfl E rfl rfl ?_; clear E a; intro a E
      refine Run.pickF rfl E rfl rfl rfl rfl ?_; clear E a; intro a E
      refine Run.pickF rfl E rfl rfl rfl rfl ?_; clear E a; intro a E
      refine Run.assign rfl E rfl rfl rfl ?_; clear E a; intro a E
      refine Run.nil ?_
      refine then_n ?_
      refine wp_ret ?_
      exact ret1 E Try.results95 rfl ⟨by rw [decide_eq_false (fun h => h.elim hR (fun h2 => hg h2.1.1))], S.belT⟩

theorem numbers_walk  : Calls Try.prog 97 [.agg #[.int .i64 s.kind, .int .i64 s.node, .int .i64 s.phase, .int .i64 s.pos, .int .i64 s.start, .int .i64 s.depth, .int .i64 s.org, .slice A s.caps.length c]].toArray w0 (fun r w' => r = .returned (.agg #[.int .i64 s.node, .int .i64 s.phase, .int .i64 s.pos, .int .i64 s.start, .int .i64 s.depth, .int .i64 s.org]) ∧ Bel w0 w') := by
  have S := St.nil [] w0
  refine fn_start Try.func97 rfl 16 rfl rfl [(0, _)] ⟨rfl, trivial⟩ ?_; intro a E
  refine wp_seq ?_
  refine region_plain (n := 2) [(0, .e), (1, .e)] rfl rfl ?_
  refine Run.box (cs := [.int .i64 s.kind, .int .i64 s.node, .int .i64 s.phase, .int .i64 s.pos, .int .i64 s.start, .int .i64 s.depth, .int .i64 s.org, .slice A s.caps.length c]) rfl rfl E S rfl rfl rfl rfl ?_; clear E a S; intro b1 w a E S B_; clear B_
  refine Run.alloc rfl rfl E S rfl rfl z143 rfl ?_; clear E a S; intro b2 w a E S B_; clear B_
  refine Run.nil ?_
  refine then_n ?_
  refine wp_seq ?_
  refine region_plain (n := 14) [(0, .p), (1, .l), (2, .p), (3, .l), (4, .p), (5, .l), (6, .p), (7, .l), (8, .p), (9, .l), (10, .p), (11, .l), (12, .p), (13, .l)] rfl rfl ?_
  refine Run.fieldAddr rfl E rfl rfl rfl fo34_1 (rfl) ?_; clear E a; intro a E
  refine Run.load1 rfl rfl E S rfl rfl rfl one3 (fun _ s => s.objCell 1 1 rfl rfl) ?_; clear E a; intro a E
  refine Run.fieldAddr rfl E rfl rfl rfl fo34_2 (rfl) ?_; clear E a; intro a E
  refine Run.load1 rfl rfl E S rfl rfl rfl one3 (fun _ s => s.objCell 1 2 rfl rfl) ?_; clear E a; intro a E
  refine Run.fieldAddr rfl E rfl rfl rfl fo34_3 (rfl) ?_; clear E a; intro a E
  refine Run.load1 rfl rfl E S rfl rfl rfl one3 (fun _ s => s.objCell 1 3 rfl rfl) ?_; clear E a; intro a E
  refine Run.fieldAddr rfl E rfl rfl rfl fo34_4 (rfl) ?_; clear E a; intro a E
  refine Run.load1 rfl rfl E S rfl rfl rfl one3 (fun _ s => s.objCell 1 4 rfl rfl) ?_; clear E a; intro a E
  refine Run.fieldAddr rfl E rfl rfl rfl fo34_5 (rfl) ?_; clear E a; intro a E
  refine Run.load1 rfl rfl E S rfl rfl rfl one3 (fun _ s => s.objCell 1 5 rfl rfl) ?_; clear E a; intro a E
  refine Run.fieldAddr rfl E rfl rfl rfl fo34_6 (rfl) ?_; clear E a; intro a E
  refine Run.load1 rfl rfl E S rfl rfl rfl one3 (fun _ s => s.objCell 1 6 rfl rfl) ?_; clear E a; intro a E
  refine Run.build (cs := #[.int .i64 s.node, .int .i64 s.phase, .int .i64 s.pos, .int .i64 s.start, .int .i64 s.depth, .int .i64 s.org]) [(0, .int .i64 s.node), (1, .int .i64 s.phase), (2, .int .i64 s.pos), (3, .int .i64 s.start), (4, .int .i64 s.depth), (5, .int .i64 s.org)] rfl E rfl rfl rfl (by kernel_rfl) ?_; clear E a; intro a E
  refine Run.store (news := [.int .i64 s.node, .int .i64 s.phase, .int .i64 s.pos, .int .i64 s.start, .int .i64 s.depth, .int .i64 s.org]) (cs' := [_, _, _, _, _, _]) (hp' := [_, _]) 0 rfl E S rfl rfl rfl rfl rfl sz143 rfl rfl rfl rfl ?_; clear S; intro w S
  refine Run.nil ?_
  refine then_n ?_
  refine wp_ret ?_
  exact retN E (vs := [.agg #[.int .i64 s.node, .int .i64 s.phase, .int .i64 s.pos, .int .i64 s.start, .int .i64 s.depth, .int .i64 s.org]]) Try.results97 (.cell (E.slot _ _ rfl) (run_loadVarAgg ag143 rfl (objAll S 0 rfl)) .nil) rfl ⟨rfl, S.belT⟩

theorem of18_walk  : Calls Try.prog 65 [.agg #[.int .i64 s.kind, .int .i64 s.node, .int .i64 s.phase, .int .i64 s.pos, .int .i64 s.start, .int .i64 s.depth, .int .i64 s.org, .slice A s.caps.length c]].toArray w0 (fun r w' => r = .returned (.agg #[.int .i64 s.kind, .int .i64 s.node, .int .i64 s.phase, .int .i64 s.pos, .int .i64 s.start, .int .i64 s.depth, .int .i64 s.org, .slice A s.caps.length c]) ∧ Bel w0 w') := by
  have S := St.nil [] w0
  refine fn_start Try.func65 rfl 21 rfl rfl [(0, _)] ⟨rfl, trivial⟩ ?_; intro a E
  refine wp_seq ?_
  refine region_plain (n := 2) [(0, .e), (1, .e)] rfl rfl ?_
  refine Run.box (cs := [.int .i64 s.kind, .int .i64 s.node, .int .i64 s.phase, .int .i64 s.pos, .int .i64 s.start, .int .i64 s.depth, .int .i64 s.org, .slice A s.caps.length c]) rfl rfl E S rfl rfl rfl rfl ?_; clear E a S; intro b1 w a E S B_; clear B_
  refine Run.alloc rfl rfl E S rfl rfl z93 rfl ?_; clear E a S; intro b2 w a E S B_; clear B_
  refine Run.nil ?_
  refine then_n ?_
  refine wp_seq ?_
  refine region_plain (n := 19) [(0, .p), (1, .l), (2, .p), (3, .l), (4, .p), (5, .l), (6, .p), (7, .l), (8, .p), (9, .l), (10, .p), (11, .l), (12, .p), (13, .l), (14, .p), (15, .p), (16, .l), (17, .p), (18, .l)] rfl rfl ?_
  refine Run.fieldAddr rfl E rfl rfl rfl fo34_0 (rfl) ?_; clear E a; intro a E
  refine Run.load1 rfl rfl E S rfl rfl rfl one3 (fun _ s => s.objCell 1 0 rfl rfl) ?_; clear E a; intro a E
  refine Run.fieldAddr rfl E rfl rfl rfl fo34_1 (rfl) ?_; clear E a; intro a E
  refine Run.load1 rfl rfl E S rfl rfl rfl one3 (fun _ s => s.objCell 1 1 rfl rfl) ?_; clear E a; intro a E
  refine Run.fieldAddr rfl E rfl rfl rfl fo34_2 (rfl) ?_; clear E a; intro a E
  refine Run.load1 rfl rfl E S rfl rfl rfl one3 (fun _ s => s.objCell 1 2 rfl rfl) ?_; clear E a; intro a E
  refine Run.fieldAddr rfl E rfl rfl rfl fo34_3 (rfl) ?_; clear E a; intro a E
  refine Run.load1 rfl rfl E S rfl rfl rfl one3 (fun _ s => s.objCell 1 3 rfl rfl) ?_; clear E a; intro a E
  refine Run.fieldAddr rfl E rfl rfl rfl fo34_4 (rfl) ?_; clear E a; intro a E
  refine Run.load1 rfl rfl E S rfl rfl rfl one3 (fun _ s => s.objCell 1 4 rfl rfl) ?_; clear E a; intro a E
  refine Run.fieldAddr rfl E rfl rfl rfl fo34_5 (rfl) ?_; clear E a; intro a E
  refine Run.load1 rfl rfl E S rfl rfl rfl one3 (fun _ s => s.objCell 1 5 rfl rfl) ?_; clear E a; intro a E
  refine Run.fieldAddr rfl E rfl rfl rfl fo34_6 (rfl) ?_; clear E a; intro a E
  refine Run.load1 rfl rfl E S rfl rfl rfl one3 (fun _ s => s.objCell 1 6 rfl rfl) ?_; clear E a; intro a E
  refine Run.build (cs := #[.int .i64 s.kind, .int .i64 s.node, .int .i64 s.phase, .int .i64 s.pos, .int .i64 s.start, .int .i64 s.depth, .int .i64 s.org]) [(0, .int .i64 s.kind), (1, .int .i64 s.node), (2, .int .i64 s.phase), (3, .int .i64 s.pos), (4, .int .i64 s.start), (5, .int .i64 s.depth), (6, .int .i64 s.org)] rfl E rfl rfl rfl (by kernel_rfl) ?_; clear E a; intro a E
  refine Run.fieldAddr rfl E rfl rfl rfl fo34_7 (rfl) ?_; clear E a; intro a E
  refine Run.load1 rfl rfl E S rfl rfl rfl one32 (fun _ s => s.objCell 1 7 rfl rfl) ?_; clear E a; intro a E
  refine Run.build (cs := #[.int .i64 s.kind, .int .i64 s.node, .int .i64 s.phase, .int .i64 s.pos, .int .i64 s.start, .int .i64 s.depth, .int .i64 s.org, .slice A s.caps.length c]) [(0, .agg #[.int .i64 s.kind, .int .i64 s.node, .int .i64 s.phase, .int .i64 s.pos, .int .i64 s.start, .int .i64 s.depth, .int .i64 s.org]), (1, .slice A s.caps.length c)] rfl E rfl rfl rfl (by kernel_rfl) ?_; clear E a; intro a E
  refine Run.store (news := [.int .i64 s.kind, .int .i64 s.node, .int .i64 s.phase, .int .i64 s.pos, .int .i64 s.start, .int .i64 s.depth, .int .i64 s.org, .slice A s.caps.length c]) (cs' := [_, _, _, _, _, _, _, _]) (hp' := [_, _]) 0 rfl E S rfl rfl rfl rfl rfl sz93 rfl rfl rfl rfl ?_; clear S; intro w S
  refine Run.nil ?_
  refine then_n ?_
  refine wp_ret ?_
  exact retN E (vs := [.agg #[.int .i64 s.kind, .int .i64 s.node, .int .i64 s.phase, .int .i64 s.pos, .int .i64 s.start, .int .i64 s.depth, .int .i64 s.org, .slice A s.caps.length c]]) Try.results65 (.cell (E.slot _ _ rfl) (run_loadVarAgg ag93 rfl (objAll S 0 rfl)) .nil) rfl ⟨rfl, S.belT⟩

theorem lblank_cap {s : Sta} (h : s = Sta.blank s.caps.length) {i : Nat} (hlt : i < s.caps.length) : s.caps[i]'hlt = -1 := by
  have hm : ∀ x ∈ s.caps, x = -1 := by
    intro x hx
    rw [show s.caps = List.replicate s.caps.length (-1) from congrArg Sta.caps h] at hx
    exact (List.mem_replicate.1 hx).2
  exact hm _ (List.getElem_mem hlt)
theorem lblank_of {s : Sta} {g : Int} (h0 : 0 ≤ g) (h1 : g ≤ 99) (hb2 : ¬ (s.caps.length : Int) ≠ 2 * g + 2) (hb3 : ¬ s.kind ≠ 0) (hb4 : ¬ s.node ≠ 0) (hb5 : ¬ s.phase ≠ 0) (hb6 : ¬ s.pos ≠ 0) (hb7 : ¬ s.start ≠ 0) (hb8 : ¬ s.depth ≠ 0) (hb9 : ¬ s.org ≠ -1) (hp : ∀ j (hj : j < s.caps.length), s.caps[j] = -1) : (0 ≤ g ∧ g ≤ 99) ∧ (s.caps.length : Int) = 2 * g + 2 ∧ s = Sta.blank s.caps.length := by
  refine ⟨⟨h0, h1⟩, Decidable.of_not_not hb2, (Sta.ext_iff' _ _).2 ⟨?_, ?_⟩⟩
  · simp only [Sta.nums, Sta.blank, Decidable.of_not_not hb3, Decidable.of_not_not hb4, Decidable.of_not_not hb5, Decidable.of_not_not hb6, Decidable.of_not_not hb7, Decidable.of_not_not hb8, Decidable.of_not_not hb9]
  · apply List.ext_getElem
    · simp [Sta.blank]
    · intro j h1 h2
      rw [hp j h1]; simp [Sta.blank]

theorem lblank_walk {g : Int} (H1 : Rd w0 A s.caps.length 1 (ints s.caps)) (hl : s.caps.length ≤ 140737488355328) : Calls Try.prog 101 [.agg #[.int .i64 s.kind, .int .i64 s.node, .int .i64 s.phase, .int .i64 s.pos, .int .i64 s.start, .int .i64 s.depth, .int .i64 s.org, .slice A s.caps.length c], .int .i64 g].toArray w0 (fun r w' => r = .returned (.bool (decide ((0 ≤ g ∧ g ≤ 99) ∧ (s.caps.length : Int) = 2 * g + 2 ∧ s = Sta.blank s.caps.length))) ∧ Bel w0 w') := by
  have S := St.nil [] w0
  refine fn_start Try.func101 rfl 67 rfl rfl [(0, _), (1, _)] ⟨rfl, rfl, trivial⟩ ?_; intro a E
  refine wp_seq ?_
  refine region_plain (n := 2) [(0, .e), (1, .p)] rfl rfl ?_
  refine Run.box (cs := [.int .i64 s.kind, .int .i64 s.node, .int .i64 s.phase, .int .i64 s.pos, .int .i64 s.start, .int .i64 s.depth, .int .i64 s.org, .slice A s.caps.length c]) rfl rfl E S rfl rfl rfl rfl ?_; clear E a S; intro b1 w a E S B_; clear B_
  refine Run.assign rfl E rfl rfl rfl ?_; clear E a; intro a E
  refine Run.nil ?_
  refine then_n ?_
  refine wp_seq ?_
  refine wp_seq ?_
  refine region_plain (n := 50) [(0, .p), (1, .p), (2, .p), (3, .p), (4, .p), (5, .p), (6, .p), (7, .p), (8, .l), (9, .p), (10, .p), (11, .p), (12, .p), (13, .p), (14, .p), (15, .p), (16, .p), (17, .l), (18, .p), (19, .p), (20, .p), (21, .p), (22, .l), (23, .p), (24, .p), (25, .p), (26, .p), (27, .l), (28, .p), (29, .p), (30, .p), (31, .p), (32, .l), (33, .p), (34, .p), (35, .p), (36, .p), (37, .l), (38, .p), (39, .p), (40, .p), (41, .p), (42, .l), (43, .p), (44, .p), (45, .p), (46, .p), (47, .l), (48, .p), (49, .p)] rfl rfl ?_
  refine Run.move rfl E rfl rfl rfl ?_; clear E a; intro a E
  by_cases hb0 : g < 0
  · skip
    refine Run.lss rfl E rfl rfl rfl rfl (decide_eq_true (by omega)) ?_; clear E a; intro a E
    refine Run.move rfl E rfl rfl rfl ?_; clear E a; intro a E
    refine Run.off rfl E rfl rfl ?_; clear E a; intro a E
    refine Run.off rfl E rfl rfl ?_; clear E a; intro a E
    refine Run.pickT rfl E rfl rfl rfl rfl ?_; clear E a; intro a E
    refine Run.move rfl E rfl rfl rfl ?_; clear E a; intro a E
    refine Run.off rfl E rfl rfl ?_; clear E a; intro a E
    refine Run.off rfl E rfl rfl ?_; clear E a; intro a E
    refine Run.off rfl E rfl rfl ?_; clear E a; intro a E
    refine Run.off rfl E rfl rfl ?_; clear E a; intro a E
    refine Run.off rfl E rfl rfl ?_; clear E a; intro a E
    refine Run.off rfl E rfl rfl ?_; clear E a; intro a E
    refine Run.off rfl E rfl rfl ?_; clear E a; intro a E
    refine Run.pickT rfl E rfl rfl rfl rfl ?_; clear E a; intro a E
    refine Run.move rfl E rfl rfl rfl ?_; clear E a; intro a E
    refine Run.off rfl E rfl rfl ?_; clear E a; intro a E
    refine Run.off rfl E rfl rfl ?_; clear E a; intro a E
    refine Run.off rfl E rfl rfl ?_; clear E a; intro a E
    refine Run.pickT rfl E rfl rfl rfl rfl ?_; clear E a; intro a E
    refine Run.move rfl E rfl rfl rfl ?_; clear E a; intro a E
    refine Run.off rfl E rfl rfl ?_; clear E a; intro a E
    refine Run.off rfl E rfl rfl ?_; clear E a; intro a E
    refine Run.off rfl E rfl rfl ?_; clear E a; intro a E
    refine Run.pickT rfl E rfl rfl rfl rfl ?_; clear E a; intro a E
    refine Run.move rfl E rfl rfl rfl ?_; clear E a; intro a E
    refine Run.off rfl E rfl rfl ?_; clear E a; intro a E
    refine Run.off rfl E rfl rfl ?_; clear E a; intro a E
    refine Run.off rfl E rfl rfl ?_; clear E a; intro a E
    refine Run.pickT rfl E rfl rfl rfl rfl ?_; clear E a; intro a E
    refine Run.move rfl E rfl rfl rfl ?_; clear E a; intro a E
    refine Run.off rfl E rfl rfl ?_; clear E a; intro a E
    refine Run.off rfl E rfl rfl ?_; clear E a; intro a E
    refine Run.off rfl E rfl rfl ?_; clear E a; intro a E
    refine Run.pickT rfl E rfl rfl rfl rfl ?_; clear E a; intro a E
    refine Run.move rfl E rfl rfl rfl ?_; clear E a; intro a E
    refine Run.off rfl E rfl rfl ?_; clear E a; intro a E
    refine Run.off rfl E rfl rfl ?_; clear E a; intro a E
    refine Run.off rfl E rfl rfl ?_; clear E a; intro a E
    refine Run.pickT rfl E rfl rfl rfl rfl ?_; clear E a; intro a E
    refine Run.move rfl E rfl rfl rfl ?_; clear E a; intro a E
    refine Run.off rfl E rfl rfl ?_; clear E a; intro a E
    refine Run.off rfl E rfl rfl ?_; clear E a; intro a E
    refine Run.off rfl E rfl rfl ?_; clear E a; intro a E
    refine Run.pickT rfl E rfl rfl rfl rfl ?_; clear E a; intro a E
    refine Run.move rfl E rfl rfl rfl ?_; clear E a; intro a E
    refine Run.off rfl E rfl rfl ?_; clear E a; intro a E
    refine Run.off rfl E rfl rfl ?_; clear E a; intro a E
    refine Run.off rfl E rfl rfl ?_; clear E a; intro a E
    refine Run.pickT rfl E rfl rfl rfl rfl ?_; clear E a; intro a E
    refine Run.nil ?_
    refine then_n ?_
    refine cond_T E rfl ?_
    refine wp_seq ?_
    refine region_plain (n := 1) [(0, .p)] rfl rfl ?_
    refine Run.assign rfl E rfl rfl rfl ?_; clear E a; intro a E
    refine Run.nil ?_
    refine then_n ?_
    refine wp_ret ?_
    refine then_r ?_
    exact ret1 E Try.results101 rfl ⟨by congr 2; symm; exact decide_eq_false (fun h => by have h1 := h.1; omega), S.belT⟩
  · skip
    refine Run.lss rfl E rfl rfl rfl rfl (decide_eq_false (by omega)) ?_; clear E a; intro a E
    refine Run.move rfl E rfl rfl rfl ?_; clear E a; intro a E
    refine Run.move rfl E rfl rfl rfl ?_; clear E a; intro a E
    by_cases hb1 : 99 < g
    · skip
      refine Run.gtr rfl E rfl rfl rfl rfl (decide_eq_true (by omega)) ?_; clear E a; intro a E
      refine Run.pickF rfl E rfl rfl rfl rfl ?_; clear E a; intro a E
      refine Run.move rfl E rfl rfl rfl ?_; clear E a; intro a E
      refine Run.off rfl E rfl rfl ?_; clear E a; intro a E
      refine Run.off rfl E rfl rfl ?_; clear E a; intro a E
      refine Run.off rfl E rfl rfl ?_; clear E a; intro a E
      refine Run.off rfl E rfl rfl ?_; clear E a; intro a E
      refine Run.off rfl E rfl rfl ?_; clear E a; intro a E
      refine Run.off rfl E rfl rfl ?_; clear E a; intro a E
      refine Run.off rfl E rfl rfl ?_; clear E a; intro a E
      refine Run.pickT rfl E rfl rfl rfl rfl ?_; clear E a; intro a E
      refine Run.move rfl E rfl rfl rfl ?_; clear E a; intro a E
      refine Run.off rfl E rfl rfl ?_; clear E a; intro a E
      refine Run.off rfl E rfl rfl ?_; clear E a; intro a E
      refine Run.off rfl E rfl rfl ?_; clear E a; intro a E
      refine Run.pickT rfl E rfl rfl rfl rfl ?_; clear E a; intro a E
      refine Run.move rfl E rfl rfl rfl ?_; clear E a; intro a E
      refine Run.off rfl E rfl rfl ?_; clear E a; intro a E
      refine Run.off rfl E rfl rfl ?_; clear E a; intro a E
      refine Run.off rfl E rfl rfl ?_; clear E a; intro a E
      refine Run.pickT rfl E rfl rfl rfl rfl ?_; clear E a; intro a E
      refine Run.move rfl E rfl rfl rfl ?_; clear E a; intro a E
      refine Run.off rfl E rfl rfl ?_; clear E a; intro a E
      refine Run.off rfl E rfl rfl ?_; clear E a; intro a E
      refine Run.off rfl E rfl rfl ?_; clear E a; intro a E
      refine Run.pickT rfl E rfl rfl rfl rfl ?_; clear E a; intro a E
      refine Run.move rfl E rfl rfl rfl ?_; clear E a; intro a E
      refine Run.off rfl E rfl rfl ?_; clear E a; intro a E
      refine Run.off rfl E rfl rfl ?_; clear E a; intro a E
      refine Run.off rfl E rfl rfl ?_; clear E a; intro a E
      refine Run.pickT rfl E rfl rfl rfl rfl ?_; clear E a; intro a E
      refine Run.move rfl E rfl rfl rfl ?_; clear E a; intro a E
      refine Run.off rfl E rfl rfl ?_; clear E a; intro a E
      refine Run.off rfl E rfl rfl ?_; clear E a; intro a E
      refine Run.off rfl E rfl rfl ?_; clear E a; intro a E
      refine Run.pickT rfl E rfl rfl rfl rfl ?_; clear E a; intro a E
      refine Run.move rfl E rfl rfl rfl ?_; clear E a; intro a E
      refine Run.off rfl E rfl rfl ?_; clear E a; intro a E
      refine Run.off rfl E rfl rfl ?_; clear E a; intro a E
      refine Run.off rfl E rfl rfl ?_; clear E a; intro a E
      refine Run.pickT rfl E rfl rfl rfl rfl ?_; clear E a; intro a E
      refine Run.move rfl E rfl rfl rfl ?_; clear E a; intro a E
      refine Run.off rfl E rfl rfl ?_; clear E a; intro a E
      refine Run.off rfl E rfl rfl ?_; clear E a; intro a E
      refine Run.off rfl E rfl rfl ?_; clear E a; intro a E
      refine Run.pickT rfl E rfl rfl rfl rfl ?_; clear E a; intro a E
      refine Run.nil ?_
      refine then_n ?_
      refine cond_T E rfl ?_
      refine wp_seq ?_
      refine region_plain (n := 1) [(0, .p)] rfl rfl ?_
      refine Run.assign rfl E rfl rfl rfl ?_; clear E a; intro a E
      refine Run.nil ?_
      refine then_n ?_
      refine wp_ret ?_
      refine then_r ?_
      exact ret1 E Try.results101 rfl ⟨by congr 2; symm; exact decide_eq_false (fun h => by have h1 := h.1; omega), S.belT⟩
    · skip
      refine Run.gtr rfl E rfl rfl rfl rfl (decide_eq_false (by omega)) ?_; clear E a; intro a E
      refine Run.pickF rfl E rfl rfl rfl rfl ?_; clear E a; intro a E
      refine Run.move rfl E rfl rfl rfl ?_; clear E a; intro a E
      refine Run.fieldAddr rfl E rfl rfl rfl fo34_7 (rfl) ?_; clear E a; intro a E
      refine Run.load1 rfl rfl E S rfl rfl rfl one32 (fun _ s => s.objCell 0 7 rfl rfl) ?_; clear E a; intro a E
      refine Run.len rfl E rfl rfl rfl Try.underlying32 ?_; clear E a; intro a E
      refine Run.move rfl E rfl rfl rfl ?_; clear E a; intro a E
      refine Run.mul rfl E rfl rfl rfl rfl (i64_ok (by omega)) ?_; clear E a; intro a E
      refine Run.add rfl E rfl rfl rfl rfl (i64_ok (by omega)) ?_; clear E a; intro a E
      by_cases hb2 : (s.caps.length : Int) ≠ 2 * g + 2
      · skip
        refine Run.nei rfl E rfl rfl rfl rfl (decide_eq_true (by omega)) ?_; clear E a; intro a E
        refine Run.pickF rfl E rfl rfl rfl rfl ?_; clear E a; intro a E
        refine Run.move rfl E rfl rfl rfl ?_; clear E a; intro a E
        refine Run.off rfl E rfl rfl ?_; clear E a; intro a E
        refine Run.off rfl E rfl rfl ?_; clear E a; intro a E
        refine Run.off rfl E rfl rfl ?_; clear E a; intro a E
        refine Run.pickT rfl E rfl rfl rfl rfl ?_; clear E a; intro a E
        refine Run.move rfl E rfl rfl rfl ?_; clear E a; intro a E
        refine Run.off rfl E rfl rfl ?_; clear E a; intro a E
        refine Run.off rfl E rfl rfl ?_; clear E a; intro a E
        refine Run.off rfl E rfl rfl ?_; clear E a; intro a E
        refine Run.pickT rfl E rfl rfl rfl rfl ?_; clear E a; intro a E
        refine Run.move rfl E rfl rfl rfl ?_; clear E a; intro a E
        refine Run.off rfl E rfl rfl ?_; clear E a; intro a E
        refine Run.off rfl E rfl rfl ?_; clear E a; intro a E
        refine Run.off rfl E rfl rfl ?_; clear E a; intro a E
        refine Run.pickT rfl E rfl rfl rfl rfl ?_; clear E a; intro a E
        refine Run.move rfl E rfl rfl rfl ?_; clear E a; intro a E
        refine Run.off rfl E rfl rfl ?_; clear E a; intro a E
        refine Run.off rfl E rfl rfl ?_; clear E a; intro a E
        refine Run.off rfl E rfl rfl ?_; clear E a; intro a E
        refine Run.pickT rfl E rfl rfl rfl rfl ?_; clear E a; intro a E
        refine Run.move rfl E rfl rfl rfl ?_; clear E a; intro a E
        refine Run.off rfl E rfl rfl ?_; clear E a; intro a E
        refine Run.off rfl E rfl rfl ?_; clear E a; intro a E
        refine Run.off rfl E rfl rfl ?_; clear E a; intro a E
        refine Run.pickT rfl E rfl rfl rfl rfl ?_; clear E a; intro a E
        refine Run.move rfl E rfl rfl rfl ?_; clear E a; intro a E
        refine Run.off rfl E rfl rfl ?_; clear E a; intro a E
        refine Run.off rfl E rfl rfl ?_; clear E a; intro a E
        refine Run.off rfl E rfl rfl ?_; clear E a; intro a E
        refine Run.pickT rfl E rfl rfl rfl rfl ?_; clear E a; intro a E
        refine Run.move rfl E rfl rfl rfl ?_; clear E a; intro a E
        refine Run.off rfl E rfl rfl ?_; clear E a; intro a E
        refine Run.off rfl E rfl rfl ?_; clear E a; intro a E
        refine Run.off rfl E rfl rfl ?_; clear E a; intro a E
        refine Run.pickT rfl E rfl rfl rfl rfl ?_; clear E a; intro a E
        refine Run.nil ?_
        refine then_n ?_
        refine cond_T E rfl ?_
        refine wp_seq ?_
        refine region_plain (n := 1) [(0, .p)] rfl rfl ?_
        refine Run.assign rfl E rfl rfl rfl ?_; clear E a; intro a E
        refine Run.nil ?_
        refine then_n ?_
        refine wp_ret ?_
        refine then_r ?_
        exact ret1 E Try.results101 rfl ⟨by congr 2; symm; exact decide_eq_false (fun h => hb2 h.2.1), S.belT⟩
      · skip
        refine Run.nei rfl E rfl rfl rfl rfl (decide_eq_false (by omega)) ?_; clear E a; intro a E
        refine Run.pickF rfl E rfl rfl rfl rfl ?_; clear E a; intro a E
        refine Run.move rfl E rfl rfl rfl ?_; clear E a; intro a E
        refine Run.fieldAddr rfl E rfl rfl rfl fo34_0 (rfl) ?_; clear E a; intro a E
        refine Run.load1 rfl rfl E S rfl rfl rfl one3 (fun _ s => s.objCell 0 0 rfl rfl) ?_; clear E a; intro a E
        by_cases hb3 : s.kind ≠ 0
        · skip
          refine Run.nei rfl E rfl rfl rfl rfl (decide_eq_true (by omega)) ?_; clear E a; intro a E
          refine Run.pickF rfl E rfl rfl rfl rfl ?_; clear E a; intro a E
          refine Run.move rfl E rfl rfl rfl ?_; clear E a; intro a E
          refine Run.off rfl E rfl rfl ?_; clear E a; intro a E
          refine Run.off rfl E rfl rfl ?_; clear E a; intro a E
          refine Run.off rfl E rfl rfl ?_; clear E a; intro a E
          refine Run.pickT rfl E rfl rfl rfl rfl ?_; clear E a; intro a E
          refine Run.move rfl E rfl rfl rfl ?_; clear E a; intro a E
          refine Run.off rfl E rfl rfl ?_; clear E a; intro a E
          refine Run.off rfl E rfl rfl ?_; clear E a; intro a E
          refine Run.off rfl E rfl rfl ?_; clear E a; intro a E
          refine Run.pickT rfl E rfl rfl rfl rfl ?_; clear E a; intro a E
          refine Run.move rfl E rfl rfl rfl ?_; clear E a; intro a E
          refine Run.off rfl E rfl rfl ?_; clear E a; intro a E
          refine Run.off rfl E rfl rfl ?_; clear E a; intro a E
          refine Run.off rfl E rfl rfl ?_; clear E a; intro a E
          refine Run.pickT rfl E rfl rfl rfl rfl ?_; clear E a; intro a E
          refine Run.move rfl E rfl rfl rfl ?_; clear E a; intro a E
          refine Run.off rfl E rfl rfl ?_; clear E a; intro a E
          refine Run.off rfl E rfl rfl ?_; clear E a; intro a E
          refine Run.off rfl E rfl rfl ?_; clear E a; intro a E
          refine Run.pickT rfl E rfl rfl rfl rfl ?_; clear E a; intro a E
          refine Run.move rfl E rfl rfl rfl ?_; clear E a; intro a E
          refine Run.off rfl E rfl rfl ?_; clear E a; intro a E
          refine Run.off rfl E rfl rfl ?_; clear E a; intro a E
          refine Run.off rfl E rfl rfl ?_; clear E a; intro a E
          refine Run.pickT rfl E rfl rfl rfl rfl ?_; clear E a; intro a E
          refine Run.move rfl E rfl rfl rfl ?_; clear E a; intro a E
          refine Run.off rfl E rfl rfl ?_; clear E a; intro a E
          refine Run.off rfl E rfl rfl ?_; clear E a; intro a E
          refine Run.off rfl E rfl rfl ?_; clear E a; intro a E
          refine Run.pickT rfl E rfl rfl rfl rfl ?_; clear E a; intro a E
          refine Run.nil ?_
          refine then_n ?_
          refine cond_T E rfl ?_
          refine wp_seq ?_
          refine region_plain (n := 1) [(0, .p)] rfl rfl ?_
          refine Run.assign rfl E rfl rfl rfl ?_; clear E a; intro a E
          refine Run.nil ?_
          refine then_n ?_
          refine wp_ret ?_
          refine then_r ?_
          exact ret1 E Try.results101 rfl ⟨by congr 2; symm; exact decide_eq_false (fun h => hb3 (by rw [h.2.2]; rfl)), S.belT⟩
        · skip
          refine Run.nei rfl E rfl rfl rfl rfl (decide_eq_false (by omega)) ?_; clear E a; intro a E
          refine Run.pickF rfl E rfl rfl rfl rfl ?_; clear E a; intro a E
          refine Run.move rfl E rfl rfl rfl ?_; clear E a; intro a E
          refine Run.fieldAddr rfl E rfl rfl rfl fo34_1 (rfl) ?_; clear E a; intro a E
          refine Run.load1 rfl rfl E S rfl rfl rfl one3 (fun _ s => s.objCell 0 1 rfl rfl) ?_; clear E a; intro a E
          by_cases hb4 : s.node ≠ 0
          · skip
            refine Run.nei rfl E rfl rfl rfl rfl (decide_eq_true (by omega)) ?_; clear E a; intro a E
            refine Run.pickF rfl E rfl rfl rfl rfl ?_; clear E a; intro a E
            refine Run.move rfl E rfl rfl rfl ?_; clear E a; intro a E
            refine Run.off rfl E rfl rfl ?_; clear E a; intro a E
            refine Run.off rfl E rfl rfl ?_; clear E a; intro a E
            refine Run.off rfl E rfl rfl ?_; clear E a; intro a E
            refine Run.pickT rfl E rfl rfl rfl rfl ?_; clear E a; intro a E
            refine Run.move rfl E rfl rfl rfl ?_; clear E a; intro a E
            refine Run.off rfl E rfl rfl ?_; clear E a; intro a E
            refine Run.off rfl E rfl rfl ?_; clear E a; intro a E
            refine Run.off rfl E rfl rfl ?_; clear E a; intro a E
            refine Run.pickT rfl E rfl rfl rfl rfl ?_; clear E a; intro a E
            refine Run.move rfl E rfl rfl rfl ?_; clear E a; intro a E
            refine Run.off rfl E rfl rfl ?_; clear E a; intro a E
            refine Run.off rfl E rfl rfl ?_; clear E a; intro a E
            refine Run.off rfl E rfl rfl ?_; clear E a; intro a E
            refine Run.pickT rfl E rfl rfl rfl rfl ?_; clear E a; intro a E
            refine Run.move rfl E rfl rfl rfl ?_; clear E a; intro a E
            refine Run.off rfl E rfl rfl ?_; clear E a; intro a E
            refine Run.off rfl E rfl rfl ?_; clear E a; intro a E
            refine Run.off rfl E rfl rfl ?_; clear E a; intro a E
            refine Run.pickT rfl E rfl rfl rfl rfl ?_; clear E a; intro a E
            refine Run.move rfl E rfl rfl rfl ?_; clear E a; intro a E
            refine Run.off rfl E rfl rfl ?_; clear E a; intro a E
            refine Run.off rfl E rfl rfl ?_; clear E a; intro a E
            refine Run.off rfl E rfl rfl ?_; clear E a; intro a E
            refine Run.pickT rfl E rfl rfl rfl rfl ?_; clear E a; intro a E
            refine Run.nil ?_
            refine then_n ?_
            refine cond_T E rfl ?_
            refine wp_seq ?_
            refine region_plain (n := 1) [(0, .p)] rfl rfl ?_
            refine Run.assign rfl E rfl rfl rfl ?_; clear E a; intro a E
            refine Run.nil ?_
            refine then_n ?_
            refine wp_ret ?_
            refine then_r ?_
            exact ret1 E Try.results101 rfl ⟨by congr 2; symm; exact decide_eq_false (fun h => hb4 (by rw [h.2.2]; rfl)), S.belT⟩
          · skip
            refine Run.nei rfl E rfl rfl rfl rfl (decide_eq_false (by omega)) ?_; clear E a; intro a E
            refine Run.pickF rfl E rfl rfl rfl rfl ?_; clear E a; intro a E
            refine Run.move rfl E rfl rfl rfl ?_; clear E a; intro a E
            refine Run.fieldAddr rfl E rfl rfl rfl fo34_2 (rfl) ?_; clear E a; intro a E
            refine Run.load1 rfl rfl E S rfl rfl rfl one3 (fun _ s => s.objCell 0 2 rfl rfl) ?_; clear E a; intro a E
            by_cases hb5 : s.phase ≠ 0
            · skip
              refine Run.nei rfl E rfl rfl rfl rfl (decide_eq_true (by omega)) ?_; clear E a; intro a E
              refine Run.pickF rfl E rfl rfl rfl rfl ?_; clear E a; intro a E
              refine Run.move rfl E rfl rfl rfl ?_; clear E a; intro a E
              refine Run.off rfl E rfl rfl ?_; clear E a; intro a E
              refine Run.off rfl E rfl rfl ?_; clear E a; intro a E
              refine Run.off rfl E rfl rfl ?_; clear E a; intro a E
              refine Run.pickT rfl E rfl rfl rfl rfl ?_; clear E a; intro a E
              refine Run.move rfl E rfl rfl rfl ?_; clear E a; intro a E
              refine Run.off rfl E rfl rfl ?_; clear E a; intro a E
              refine Run.off rfl E rfl rfl ?_; clear E a; intro a E
              refine Run.off rfl E rfl rfl ?_; clear E a; intro a E
              refine Run.pickT rfl E rfl rfl rfl rfl ?_; clear E a; intro a E
              refine Run.move rfl E rfl rfl rfl ?_; clear E a; intro a E
              refine Run.off rfl E rfl rfl ?_; clear E a; intro a E
              refine Run.off rfl E rfl rfl ?_; clear E a; intro a E
              refine Run.off rfl E rfl rfl ?_; clear E a; intro a E
              refine Run.pickT rfl E rfl rfl rfl rfl ?_; clear E a; intro a E
              refine Run.move rfl E rfl rfl rfl ?_; clear E a; intro a E
              refine Run.off rfl E rfl rfl ?_; clear E a; intro a E
              refine Run.off rfl E rfl rfl ?_; clear E a; intro a E
              refine Run.off rfl E rfl rfl ?_; clear E a; intro a E
              refine Run.pickT rfl E rfl rfl rfl rfl ?_; clear E a; intro a E
              refine Run.nil ?_
              refine then_n ?_
              refine cond_T E rfl ?_
              refine wp_seq ?_
              refine region_plain (n := 1) [(0, .p)] rfl rfl ?_
              refine Run.assign rfl E rfl rfl rfl ?_; clear E a; intro a E
              refine Run.nil ?_
              refine then_n ?_
              refine wp_ret ?_
              refine then_r ?_
              exact ret1 E Try.results101 rfl ⟨by congr 2; symm; exact decide_eq_false (fun h => hb5 (by rw [h.2.2]; rfl)), S.belT⟩
            · skip
              refine Run.nei rfl E rfl rfl rfl rfl (decide_eq_false (by omega)) ?_; clear E a; intro a E
              refine Run.pickF rfl E rfl rfl rfl rfl ?_; clear E a; intro a E
              refine Run.move rfl E rfl rfl rfl ?_; clear E a; intro a E
              refine Run.fieldAddr rfl E rfl rfl rfl fo34_3 (rfl) ?_; clear E a; intro a E
              refine Run.load1 rfl rfl E S rfl rfl rfl one3 (fun _ s => s.objCell 0 3 rfl rfl) ?_; clear E a; intro a E
              by_cases hb6 : s.pos ≠ 0
              · skip
                refine Run.nei rfl E rfl rfl rfl rfl (decide_eq_true (by omega)) ?_; clear E a; intro a E
                refine Run.pickF rfl E rfl rfl rfl rfl ?_; clear E a; intro a E
                refine Run.move rfl E rfl rfl rfl ?_; clear E a; intro a E
                refine Run.off rfl E rfl rfl ?_; clear E a; intro a E
                refine Run.off rfl E rfl rfl ?_; clear E a; intro a E
                refine Run.off rfl E rfl rfl ?_; clear E a; intro a E
                refine Run.pickT rfl E rfl rfl rfl rfl ?_; clear E a; intro a E
                refine Run.move rfl E rfl rfl rfl ?_; clear E a; intro a E
                refine Run.off rfl E rfl rfl ?_; clear E a; intro a E
                refine Run.off rfl E rfl rfl ?_; clear E a; intro a E
                refine Run.off rfl E rfl rfl ?_; clear E a; intro a E
                refine Run.pickT rfl E rfl rfl rfl rfl ?_; clear E a; intro a E
                refine Run.move rfl E rfl rfl rfl ?_; clear E a; intro a E
                refine Run.off rfl E rfl rfl ?_; clear E a; intro a E
                refine Run.off rfl E rfl rfl ?_; clear E a; intro a E
                refine Run.off rfl E rfl rfl ?_; clear E a; intro a E
                refine Run.pickT rfl E rfl rfl rfl rfl ?_; clear E a; intro a E
                refine Run.nil ?_
                refine then_n ?_
                refine cond_T E rfl ?_
                refine wp_seq ?_
                refine region_plain (n := 1) [(0, .p)] rfl rfl ?_
                refine Run.assign rfl E rfl rfl rfl ?_; clear E a; intro a E
                refine Run.nil ?_
                refine then_n ?_
                refine wp_ret ?_
                refine then_r ?_
                exact ret1 E Try.results101 rfl ⟨by congr 2; symm; exact decide_eq_false (fun h => hb6 (by rw [h.2.2]; rfl)), S.belT⟩
              · skip
                refine Run.nei rfl E rfl rfl rfl rfl (decide_eq_false (by omega)) ?_; clear E a; intro a E
                refine Run.pickF rfl E rfl rfl rfl rfl ?_; clear E a; intro a E
                refine Run.move rfl E rfl rfl rfl ?_; clear E a; intro a E
                refine Run.fieldAddr rfl E rfl rfl rfl fo34_4 (rfl) ?_; clear E a; intro a E
                refine Run.load1 rfl rfl E S rfl rfl rfl one3 (fun _ s => s.objCell 0 4 rfl rfl) ?_; clear E a; intro a E
                by_cases hb7 : s.start ≠ 0
                · skip
                  refine Run.nei rfl E rfl rfl rfl rfl (decide_eq_true (by omega)) ?_; clear E a; intro a E
                  refine Run.pickF rfl E rfl rfl rfl rfl ?_; clear E a; intro a E
                  refine Run.move rfl E rfl rfl rfl ?_; clear E a; intro a E
                  refine Run.off rfl E rfl rfl ?_; clear E a; intro a E
                  refine Run.off rfl E rfl rfl ?_; clear E a; intro a E
                  refine Run.off rfl E rfl rfl ?_; clear E a; intro a E
                  refine Run.pickT rfl E rfl rfl rfl rfl ?_; clear E a; intro a E
                  refine Run.move rfl E rfl rfl rfl ?_; clear E a; intro a E
                  refine Run.off rfl E rfl rfl ?_; clear E a; intro a E
                  refine Run.off rfl E rfl rfl ?_; clear E a; intro a E
                  refine Run.off rfl E rfl rfl ?_; clear E a; intro a E
                  refine Run.pickT rfl E rfl rfl rfl rfl ?_; clear E a; intro a E
                  refine Run.nil ?_
                  refine then_n ?_
                  refine cond_T E rfl ?_
                  refine wp_seq ?_
                  refine region_plain (n := 1) [(0, .p)] rfl rfl ?_
                  refine Run.assign rfl E rfl rfl rfl ?_; clear E a; intro a E
                  refine Run.nil ?_
                  refine then_n ?_
                  refine wp_ret ?_
                  refine then_r ?_
                  exact ret1 E Try.results101 rfl ⟨by congr 2; symm; exact decide_eq_false (fun h => hb7 (by rw [h.2.2]; rfl)), S.belT⟩
                · skip
                  refine Run.nei rfl E rfl rfl rfl rfl (decide_eq_false (by omega)) ?_; clear E a; intro a E
                  refine Run.pickF rfl E rfl rfl rfl rfl ?_; clear E a; intro a E
                  refine Run.move rfl E rfl rfl rfl ?_; clear E a; intro a E
                  refine Run.fieldAddr rfl E rfl rfl rfl fo34_5 (rfl) ?_; clear E a; intro a E
                  refine Run.load1 rfl rfl E S rfl rfl rfl one3 (fun _ s => s.objCell 0 5 rfl rfl) ?_; clear E a; intro a E
                  by_cases hb8 : s.depth ≠ 0
                  · skip
                    refine Run.nei rfl E rfl rfl rfl rfl (decide_eq_true (by omega)) ?_; clear E a; intro a E
                    refine Run.pickF rfl E rfl rfl rfl rfl ?_; clear E a; intro a E
                    refine Run.move rfl E rfl rfl rfl ?_; clear E a; intro a E
                    refine Run.off rfl E rfl rfl ?_; clear E a; intro a E
                    refine Run.off rfl E rfl rfl ?_; clear E a; intro a E
                    refine Run.off rfl E rfl rfl ?_; clear E a; intro a E
                    refine Run.pickT rfl E rfl rfl rfl rfl ?_; clear E a; intro a E
                    refine Run.nil ?_
                    refine then_n ?_
                    refine cond_T E rfl ?_
                    refine wp_seq ?_
                    refine region_plain (n := 1) [(0, .p)] rfl rfl ?_
                    refine Run.assign rfl E rfl rfl rfl ?_; clear E a; intro a E
                    refine Run.nil ?_
                    refine then_n ?_
                    refine wp_ret ?_
                    refine then_r ?_
                    exact ret1 E Try.results101 rfl ⟨by congr 2; symm; exact decide_eq_false (fun h => hb8 (by rw [h.2.2]; rfl)), S.belT⟩
                  · skip
                    refine Run.nei rfl E rfl rfl rfl rfl (decide_eq_false (by omega)) ?_; clear E a; intro a E
                    refine Run.pickF rfl E rfl rfl rfl rfl ?_; clear E a; intro a E
                    refine Run.move rfl E rfl rfl rfl ?_; clear E a; intro a E
                    refine Run.fieldAddr rfl E rfl rfl rfl fo34_6 (rfl) ?_; clear E a; intro a E
                    refine Run.load1 rfl rfl E S rfl rfl rfl one3 (fun _ s => s.objCell 0 6 rfl rfl) ?_; clear E a; intro a E
                    by_cases hb9 : s.org ≠ -1
                    · skip
                      refine Run.nei rfl E rfl rfl rfl rfl (decide_eq_true (by omega)) ?_; clear E a; intro a E
                      refine Run.pickF rfl E rfl rfl rfl rfl ?_; clear E a; intro a E
                      refine Run.nil ?_
                      refine then_n ?_
                      refine cond_T E rfl ?_
                      refine wp_seq ?_
                      refine region_plain (n := 1) [(0, .p)] rfl rfl ?_
                      refine Run.assign rfl E rfl rfl rfl ?_; clear E a; intro a E
                      refine Run.nil ?_
                      refine then_n ?_
                      refine wp_ret ?_
                      refine then_r ?_
                      exact ret1 E Try.results101 rfl ⟨by congr 2; symm; exact decide_eq_false (fun h => hb9 (by rw [h.2.2]; rfl)), S.belT⟩
                    · skip
                      refine Run.nei rfl E rfl rfl rfl rfl (decide_eq_false (by omega)) ?_; clear E a; intro a E
                      refine Run.pickF rfl E rfl rfl rfl rfl ?_; clear E a; intro a E
                      refine Run.nil ?_
                      refine then_n ?_
                      refine cond_F E rfl ?_
                      refine wp_skip ?_
                      refine then_n ?_
                      refine wp_seq ?_
                      refine wp_seq ?_
                      refine region_plain (n := 4) [(0, .p), (1, .l), (2, .p), (3, .p)] rfl rfl ?_
                      refine Run.fieldAddr rfl E rfl rfl rfl fo34_7 (rfl) ?_; clear E a; intro a E
                      refine Run.load1 rfl rfl E S rfl rfl rfl one32 (fun _ s => s.objCell 0 7 rfl rfl) ?_; clear E a; intro a E
                      refine Run.len rfl E rfl rfl rfl Try.underlying32 ?_; clear E a; intro a E
                      refine Run.move rfl E rfl rfl rfl ?_; clear E a; intro a E
                      refine Run.nil ?_
                      refine then_n ?_
                      refine wp_block ?_
                      refine wp_loop_ghost (fun n_ a w => ∃ i : Nat, s.caps.length - i = n_ ∧ Env 67 [(58, .slice A s.caps.length c), (59, .int .i64 (s.caps.length : Int)), (60, .int .i64 (i : Int))] a ∧ St _ _ w [.obj b1 34 [.int .i64 s.kind, .int .i64 s.node, .int .i64 s.phase, .int .i64 s.pos, .int .i64 s.start, .int .i64 s.depth, .int .i64 s.org, .slice A s.caps.length c]] ∧ (∀ j (hj : j < s.caps.length), j < i → s.caps[j] = -1)) _ ⟨0, rfl, E.keeps [(58, _), (59, _), (60, _)] ⟨rfl, rfl, rfl, trivial⟩, S, (fun j hj h => absurd h (Nat.not_lt_zero j))⟩ ?_
                      clear E a S
                      rintro n_ a w ⟨i, rfl, E, S, hp⟩
                      refine wp_seq ?_
                      refine region_plain (n := 1) [(0, .p)] rfl rfl ?_
                      by_cases hlt : i < s.caps.length
                      · skip
                        obtain ⟨bA, oA, rfl, hA⟩ := H1.place (by omega)
                        refine Run.lss rfl E rfl rfl rfl rfl (decide_eq_true (by omega)) ?_; clear E a; intro a E
                        refine Run.nil ?_
                        refine then_n ?_
                        refine wp_seq ?_
                        refine cond_T E rfl ?_
                        refine wp_skip ?_
                        refine then_n ?_
                        refine wp_seq ?_
                        refine wp_block ?_
                        refine wp_seq ?_
                        refine region_plain (n := 3) [(0, .p), (1, .l), (2, .p)] rfl rfl ?_
                        refine Run.indexAddr rfl E rfl rfl rfl rfl Try.underlying32 sz3 (by omega) (ix_at1 (m' := i) (by omega)) ?_; clear E a; intro a E
                        refine Run.load1 rfl rfl E S rfl rfl rfl one3 (fun _ s_ => rdAt1 hA s_ (ints_get' ((List.getElem?_eq_getElem hlt : s.caps[i]? = some (s.caps[i]'hlt))))) ?_; clear E a; intro a E
                        refine Run.assign rfl E rfl rfl rfl ?_; clear E a; intro a E
                        refine Run.nil ?_
                        refine then_n ?_
                        refine wp_seq ?_
                        refine region_plain (n := 2) [(0, .p), (1, .p)] rfl rfl ?_
                        refine Run.move rfl E rfl rfl rfl ?_; clear E a; intro a E
                        by_cases hne : s.caps[i]'hlt ≠ -1
                        · skip
                          refine Run.nei rfl E rfl rfl rfl rfl (decide_eq_true (by omega)) ?_; clear E a; intro a E
                          refine Run.nil ?_
                          refine then_n ?_
                          refine cond_T E rfl ?_
                          refine wp_seq ?_
                          refine region_plain (n := 1) [(0, .p)] rfl rfl ?_
                          refine Run.assign rfl E rfl rfl rfl ?_; clear E a; intro a E
                          refine Run.nil ?_
                          refine then_n ?_
                          refine wp_ret ?_
                          refine blk_r ?_
                          refine then_r ?_
                          refine then_r ?_
                          refine blk_r ?_
                          refine then_r ?_
                          exact ret1 E Try.results101 rfl ⟨by congr 2; symm; exact decide_eq_false (fun h => hne (lblank_cap h.2.2 hlt)), S.belT⟩
                        · skip
                          refine Run.nei rfl E rfl rfl rfl rfl (decide_eq_false (by omega)) ?_; clear E a; intro a E
                          refine Run.nil ?_
                          refine then_n ?_
                          refine cond_F E rfl ?_
                          refine wp_skip ?_
                          refine blk_n ?_
                          refine then_n ?_
                          refine region_plain (n := 2) [(0, .p), (1, .p)] rfl rfl ?_
                          refine Run.add rfl E rfl rfl rfl rfl (i64_ok (by omega)) ?_; clear E a; intro a E
                          refine Run.move rfl E rfl rfl rfl ?_; clear E a; intro a E
                          refine Run.nil ?_
                          refine then_n ?_
                          replace E := E.setv 60 rfl (show Value.int .i64 ((i : Int) + 1) = .int .i64 ((i + 1 : Nat) : Int) from rfl)
                          exact ⟨_, (by omega), (i + 1), rfl, E.keeps [(58, _), (59, _), (60, _)] ⟨rfl, rfl, rfl, trivial⟩, S, (fun j hj hji => by by_cases e : j = i; subst e; exact Decidable.of_not_not hne; exact hp j hj (by omega))⟩
                      · skip
                        refine Run.lss rfl E rfl rfl rfl rfl (decide_eq_false (by omega)) ?_; clear E a; intro a E
                        refine Run.nil ?_
                        refine then_n ?_
                        refine wp_seq ?_
                        refine cond_F E rfl ?_
                        refine wp_exit ?_
                        refine then_x ?_
                        refine then_x ?_
                        refine blk_x ?_
                        refine then_n ?_
                        refine wp_seq ?_
                        refine region_plain (n := 1) [(0, .p)] rfl rfl ?_
                        refine Run.assign rfl E rfl rfl rfl ?_; clear E a; intro a E
                        refine Run.nil ?_
                        refine then_n ?_
                        refine wp_ret ?_
                        exact ret1 E Try.results101 rfl ⟨by congr 2; symm; exact decide_eq_true (lblank_of (by omega) (by omega) hb2 hb3 hb4 hb5 hb6 hb7 hb8 hb9 (fun j hj => hp j hj (by omega))), S.belT⟩

theorem lbase_walk (H1 : Rd w0 A s.caps.length 1 (ints s.caps)) (hl : s.caps.length ≤ 140737488355328) : Calls Try.prog 63 [.agg #[.int .i64 s.kind, .int .i64 s.node, .int .i64 s.phase, .int .i64 s.pos, .int .i64 s.start, .int .i64 s.depth, .int .i64 s.org, .slice A s.caps.length c]].toArray w0 (fun r w' => r = .returned (.bool (decide s.base)) ∧ Bel w0 w') := by
  have S := St.nil [] w0
  refine fn_start Try.func63 rfl 17 rfl rfl [(0, _)] ⟨rfl, trivial⟩ ?_; intro a E
  refine wp_seq ?_
  refine region_plain (n := 2) [(0, .e), (1, .p)] rfl rfl ?_
  refine Run.box (cs := [.int .i64 s.kind, .int .i64 s.node, .int .i64 s.phase, .int .i64 s.pos, .int .i64 s.start, .int .i64 s.depth, .int .i64 s.org, .slice A s.caps.length c]) rfl rfl E S rfl rfl rfl rfl ?_; clear E a S; intro b1 w a E S B_; clear B_
  refine Run.assign rfl E rfl rfl rfl ?_; clear E a; intro a E
  refine Run.nil ?_
  refine then_n ?_
  refine wp_seq ?_
  refine region_plain (n := 6) [(0, .p), (1, .l), (2, .p), (3, .p), (4, .p), (5, .p)] rfl rfl ?_
  refine Run.fieldAddr rfl E rfl rfl rfl fo34_7 (rfl) ?_; clear E a; intro a E
  refine Run.load1 rfl rfl E S rfl rfl rfl one32 (fun _ s => s.objCell 0 7 rfl rfl) ?_; clear E a; intro a E
  refine Run.len rfl E rfl rfl rfl Try.underlying32 ?_; clear E a; intro a E
  refine Run.quo rfl E rfl rfl rfl rfl (by decide) (IntWalk.i64_quo _ _ (by omega)) ?_; clear E a; intro a E
  refine Run.sub rfl E rfl rfl rfl rfl (i64_ok (by omega)) ?_; clear E a; intro a E
  refine Run.assign rfl E rfl rfl rfl ?_; clear E a; intro a E
  replace E := E.setv 3 rfl (show Value.int .i64 ((s.caps.length : Int) / 2 - 1) = .int .i64 s.groups from rfl)
  refine Run.nil ?_
  refine then_n ?_
  refine wp_seq ?_
  refine region_plain (n := 9) [(0, .l), (1, .p), (2, .e), (3, .p), (4, .l), (5, .p), (6, .e), (7, .p), (8, .p)] rfl rfl ?_
  refine Run.loadN (cs := [.int .i64 s.kind, .int .i64 s.node, .int .i64 s.phase, .int .i64 s.pos, .int .i64 s.start, .int .i64 s.depth, .int .i64 s.org, .slice A s.caps.length c]) rfl rfl E S rfl rfl rfl ag34 rfl (fun _ s => objAll s 0 rfl) ?_; clear E a; intro a E
  refine Run.move rfl E rfl rfl rfl ?_; clear E a; intro a E
  refine Run.call (args := [.agg #[.int .i64 s.kind, .int .i64 s.node, .int .i64 s.phase, .int .i64 s.pos, .int .i64 s.start, .int .i64 s.depth, .int .i64 s.org, .slice A s.caps.length c], .int .i64 s.groups]) rfl rfl E rfl rfl Try.func26 nm26 rfl rfl (right_walk (s := s) (g := s.groups) (H1.bel S.belT) (hl)) ?_; rintro e_ w ⟨rfl, B_⟩; refine ⟨_, rfl, fun _ => B_, ?_⟩; clear E a; replace S := S.bel B_; intro a E
  clear B_
  by_cases hR : s.Right s.groups
  · skip
    replace E := E.setb 11 rfl (decide_eq_true hR)
    refine Run.move rfl E rfl rfl rfl ?_; clear E a; intro a E
    refine Run.off rfl E rfl rfl ?_; clear E a; intro a E
    refine Run.off rfl E rfl rfl ?_; clear E a; intro a E
    refine Run.off rfl E rfl rfl ?_; clear E a; intro a E
    refine Run.pickT rfl E rfl rfl rfl rfl ?_; clear E a; intro a E
    refine Run.assign rfl E rfl rfl rfl ?_; clear E a; intro a E
    refine Run.nil ?_
    refine then_n ?_
    refine wp_ret ?_
    exact ret1 E Try.results63 rfl ⟨by rw [decide_eq_true (show s.base from .inl hR)], S.belT⟩
  · skip
    replace E := E.setb 11 rfl (decide_eq_false hR)
    refine Run.move rfl E rfl rfl rfl ?_; clear E a; intro a E
    refine Run.loadN (cs := [.int .i64 s.kind, .int .i64 s.node, .int .i64 s.phase, .int .i64 s.pos, .int .i64 s.start, .int .i64 s.depth, .int .i64 s.org, .slice A s.caps.length c]) rfl rfl E S rfl rfl rfl ag34 rfl (fun _ s => objAll s 0 rfl) ?_; clear E a; intro a E
    refine Run.move rfl E rfl rfl rfl ?_; clear E a; intro a E
    refine Run.call (args := [.agg #[.int .i64 s.kind, .int .i64 s.node, .int .i64 s.phase, .int .i64 s.pos, .int .i64 s.start, .int .i64 s.depth, .int .i64 s.org, .slice A s.caps.length c], .int .i64 s.groups]) rfl rfl E rfl rfl Try.func101 nm101 rfl rfl (lblank_walk (s := s) (g := s.groups) (H1.bel S.belT) hl) ?_; rintro e_ w ⟨rfl, B_⟩; refine ⟨_, rfl, fun _ => B_, ?_⟩; clear E a; replace S := S.bel B_; intro a E
    clear B_
    refine Run.pickF rfl E rfl rfl rfl rfl ?_; clear E a; intro a E
    refine Run.assign rfl E rfl rfl rfl ?_; clear E a; intro a E
    refine Run.nil ?_
    refine then_n ?_
    refine wp_ret ?_
    exact ret1 E Try.results63 rfl ⟨by congr 2; exact decide_eq_decide.2 ⟨.inr, fun h => h.resolve_left hR⟩, S.belT⟩

end
end Go.Proofs.Ytlcglefbhlhcpaa.K
