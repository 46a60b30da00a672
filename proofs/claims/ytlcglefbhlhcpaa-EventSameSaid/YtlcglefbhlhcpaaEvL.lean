/- The law EventSame walked. -/
import Derived.Test.YtlcglefbhlhcpaaKg
import Derived.Test.YtlcglefbhlhcpaaEvA
namespace Go.Proofs.Ytlcglefbhlhcpaa.K
open Go.RowKit
set_option linter.unusedVariables false
set_option maxRecDepth 100000
set_option maxHeartbeats 2000000

/-- All numbers are the same, and as many places as are looked at. -/
def Sam (s t : Sta) (i : Nat) : Prop := (s.kind = t.kind ∧ s.node = t.node ∧ s.phase = t.phase ∧ s.pos = t.pos ∧ s.start = t.start ∧ s.depth = t.depth ∧ s.org = t.org ∧ s.caps.length = t.caps.length) ∧ ∀ j, j < i → s.caps[j]? = t.caps[j]?
noncomputable def samB (s t : Sta) (i : Nat) : Bool := @decide (Sam s t i) (Classical.propDecidable _)
theorem samB_zero (s t : Sta) : samB s t 0 = decide (s.kind = t.kind ∧ s.node = t.node ∧ s.phase = t.phase ∧ s.pos = t.pos ∧ s.start = t.start ∧ s.depth = t.depth ∧ s.org = t.org ∧ s.caps.length = t.caps.length) := by
  unfold samB Sam
  simp
theorem samB_of {s t : Sta} {i : Nat} {b : Bool} (h : samB s t i = b) (he : s.caps[i]? = t.caps[i]?) : b = samB s t (i + 1) := by
  subst h
  have : Sam s t i ↔ Sam s t (i + 1) := ⟨fun h => ⟨h.1, eq_step h.2 he⟩, fun h => ⟨h.1, fun j hj => h.2 j (by omega)⟩⟩
  simp [samB, this]
theorem samB_ff {s t : Sta} {i : Nat} (h : samB s t i = false) : false = samB s t (i + 1) := by
  have h1 : ¬ Sam s t i := by simpa [samB] using h
  have h2 : ¬ Sam s t (i + 1) := fun h => h1 ⟨h.1, fun j hj => h.2 j (by omega)⟩
  simp [samB, h2]
theorem samB_ne {s t : Sta} {i : Nat} (he : s.caps[i]? ≠ t.caps[i]?) : false = samB s t (i + 1) := by
  have h2 : ¬ Sam s t (i + 1) := fun h => he (h.2 i (by omega))
  simp [samB, h2]
theorem samB_all (s t : Sta) {n : Nat} (h : n = min s.caps.length t.caps.length) : decide (s = t) = samB s t n := by
  have : s = t ↔ Sam s t n := by
    rw [Sta.ext_iff']
    constructor
    · rintro ⟨h1, h2⟩
      simp only [Sta.nums, List.cons.injEq, and_true] at h1
      exact ⟨⟨h1.1, h1.2.1, h1.2.2.1, h1.2.2.2.1, h1.2.2.2.2.1, h1.2.2.2.2.2.1, h1.2.2.2.2.2.2, by rw [h2]⟩, fun j _ => by rw [h2]⟩
    · rintro ⟨⟨h1, h2, h3, h4, h5, h6, h7, h8⟩, h9⟩
      exact ⟨by simp [Sta.nums, *], list_eq_of h8 (i := n) (by omega) h9⟩
  simp [samB, this]
theorem same_self {w0 : World} {A B : Option Addr} {c d : Nat} {s : Sta} (H1 : Rd w0 A s.caps.length 1 (ints s.caps)) (H2 : Rd w0 B s.caps.length 1 (ints s.caps)) (hl : s.caps.length ≤ 140737488355328) : Calls Try.prog 42 [.agg #[.int .i64 s.kind, .int .i64 s.node, .int .i64 s.phase, .int .i64 s.pos, .int .i64 s.start, .int .i64 s.depth, .int .i64 s.org, .slice A s.caps.length c], .agg #[.int .i64 s.kind, .int .i64 s.node, .int .i64 s.phase, .int .i64 s.pos, .int .i64 s.start, .int .i64 s.depth, .int .i64 s.org, .slice B s.caps.length d]].toArray w0 (fun r w' => r = .returned (.bool true) ∧ Bel w0 w') := by
  have := same_walk (c := c) (d := d) H1 H2 hl
  simpa using this

section
variable {w0 : World} {A B : Option Addr} {c d : Nat} {s t : Sta} {x : Int}

theorem eventSame_walk (H1 : Rd w0 A s.caps.length 1 (ints s.caps)) (H2 : Rd w0 B t.caps.length 1 (ints t.caps)) (hl : s.caps.length * 8 ≤ 140737488355328) (h2l : t.caps.length ≤ 140737488355328) : Calls Try.prog 6 [.agg #[.int .i64 s.kind, .int .i64 s.node, .int .i64 s.phase, .int .i64 s.pos, .int .i64 s.start, .int .i64 s.depth, .int .i64 s.org, .slice A s.caps.length c], .agg #[.int .i64 t.kind, .int .i64 t.node, .int .i64 t.phase, .int .i64 t.pos, .int .i64 t.start, .int .i64 t.depth, .int .i64 t.org, .slice B t.caps.length d], .int .i64 x].toArray w0 (fun r w' => r = .returned (.bool true) ∧ Bel w0 w') := by
  have S := St.nil [] w0
  have h1l : s.caps.length ≤ 140737488355328 := by omega
  obtain ⟨n, hnn⟩ : ∃ n : Nat, n = min s.caps.length t.caps.length := ⟨_, rfl⟩
  have hna : n ≤ s.caps.length := by omega
  have hnb : n ≤ t.caps.length := by omega
  refine fn_start Try.func6 rfl 147 rfl rfl [(0, _), (1, _), (2, _)] ⟨rfl, rfl, rfl, trivial⟩ ?_; intro a E
  refine wp_seq ?_
  refine region_plain (n := 3) [(0, .e), (1, .e), (2, .p)] rfl rfl ?_
  refine Run.box (cs := [.int .i64 s.kind, .int .i64 s.node, .int .i64 s.phase, .int .i64 s.pos, .int .i64 s.start, .int .i64 s.depth, .int .i64 s.org, .slice A s.caps.length c]) rfl rfl E S rfl rfl rfl rfl ?_; clear E a S; intro b1 w a E S B_; clear B_
  refine Run.box (cs := [.int .i64 t.kind, .int .i64 t.node, .int .i64 t.phase, .int .i64 t.pos, .int .i64 t.start, .int .i64 t.depth, .int .i64 t.org, .slice B t.caps.length d]) rfl rfl E S rfl rfl rfl rfl ?_; clear E a S; intro b2 w a E S B_; clear B_
  refine Run.assign rfl E rfl rfl rfl ?_; clear E a; intro a E
  refine Run.nil ?_
  refine then_n ?_
  refine wp_seq ?_
  refine wp_seq ?_
  refine region_plain (n := 2) [(0, .e), (1, .p)] rfl rfl ?_
  refine Run.call (args := []) rfl rfl E rfl rfl Try.func43 nm43 rfl rfl (anchor14) ?_; rintro e_ w ⟨rfl, B_⟩; refine ⟨_, rfl, fun _ => B_, ?_⟩; clear E a; replace S := S.bel B_; intro a E
  clear B_
  refine Run.not rfl E rfl rfl rfl rfl ?_; clear E a; intro a E
  refine Run.nil ?_
  refine then_n ?_
  refine cond_F E rfl ?_
  refine wp_skip ?_
  refine then_n ?_
  refine wp_mid (fun a w => Env 147 [(2, .int .i64 x), (3, .pointer (some ⟨b1, 0, none⟩)), (4, .pointer (some ⟨b2, 0, none⟩)), (6, .bool false), (7, .bool (samB s t 0))] a ∧ St [] w0 w [.obj b2 34 [.int .i64 t.kind, .int .i64 t.node, .int .i64 t.phase, .int .i64 t.pos, .int .i64 t.start, .int .i64 t.depth, .int .i64 t.org, .slice B t.caps.length d], .obj b1 34 [.int .i64 s.kind, .int .i64 s.node, .int .i64 s.phase, .int .i64 s.pos, .int .i64 s.start, .int .i64 s.depth, .int .i64 s.org, .slice A s.caps.length c]]) ?_ ?_
  · skip
    refine region_plain (n := 57) [(0, .p), (1, .l), (2, .p), (3, .l), (4, .p), (5, .p), (6, .p), (7, .l), (8, .p), (9, .l), (10, .p), (11, .p), (12, .p), (13, .p), (14, .l), (15, .p), (16, .l), (17, .p), (18, .p), (19, .p), (20, .p), (21, .l), (22, .p), (23, .l), (24, .p), (25, .p), (26, .p), (27, .p), (28, .l), (29, .p), (30, .l), (31, .p), (32, .p), (33, .p), (34, .p), (35, .l), (36, .p), (37, .l), (38, .p), (39, .p), (40, .p), (41, .p), (42, .l), (43, .p), (44, .l), (45, .p), (46, .p), (47, .p), (48, .p), (49, .l), (50, .p), (51, .p), (52, .l), (53, .p), (54, .p), (55, .p), (56, .p)] rfl rfl ?_
    refine Run.fieldAddr rfl E rfl rfl rfl fo34_0 (rfl) ?_; clear E a; intro a E
    refine Run.load1 rfl rfl E S rfl rfl rfl one3 (fun _ s => s.objCell 1 0 rfl rfl) ?_; clear E a; intro a E
    refine Run.fieldAddr rfl E rfl rfl rfl fo34_0 (rfl) ?_; clear E a; intro a E
    refine Run.load1 rfl rfl E S rfl rfl rfl one3 (fun _ s => s.objCell 0 0 rfl rfl) ?_; clear E a; intro a E
    by_cases h0 : s.kind = t.kind
    · skip
      refine Run.eqi rfl E rfl rfl rfl rfl (decide_eq_true (h0)) ?_; clear E a; intro a E
      refine Run.move rfl E rfl rfl rfl ?_; clear E a; intro a E
      refine Run.fieldAddr rfl E rfl rfl rfl fo34_1 (rfl) ?_; clear E a; intro a E
      refine Run.load1 rfl rfl E S rfl rfl rfl one3 (fun _ s => s.objCell 1 1 rfl rfl) ?_; clear E a; intro a E
      refine Run.fieldAddr rfl E rfl rfl rfl fo34_1 (rfl) ?_; clear E a; intro a E
      refine Run.load1 rfl rfl E S rfl rfl rfl one3 (fun _ s => s.objCell 0 1 rfl rfl) ?_; clear E a; intro a E
      by_cases h1 : s.node = t.node
      · skip
        refine Run.eqi rfl E rfl rfl rfl rfl (decide_eq_true (h1)) ?_; clear E a; intro a E
        refine Run.pickT rfl E rfl rfl rfl rfl ?_; clear E a; intro a E
        refine Run.move rfl E rfl rfl rfl ?_; clear E a; intro a E
        refine Run.fieldAddr rfl E rfl rfl rfl fo34_2 (rfl) ?_; clear E a; intro a E
        refine Run.load1 rfl rfl E S rfl rfl rfl one3 (fun _ s => s.objCell 1 2 rfl rfl) ?_; clear E a; intro a E
        refine Run.fieldAddr rfl E rfl rfl rfl fo34_2 (rfl) ?_; clear E a; intro a E
        refine Run.load1 rfl rfl E S rfl rfl rfl one3 (fun _ s => s.objCell 0 2 rfl rfl) ?_; clear E a; intro a E
        by_cases h2 : s.phase = t.phase
        · skip
          refine Run.eqi rfl E rfl rfl rfl rfl (decide_eq_true (h2)) ?_; clear E a; intro a E
          refine Run.pickT rfl E rfl rfl rfl rfl ?_; clear E a; intro a E
          refine Run.move rfl E rfl rfl rfl ?_; clear E a; intro a E
          refine Run.fieldAddr rfl E rfl rfl rfl fo34_3 (rfl) ?_; clear E a; intro a E
          refine Run.load1 rfl rfl E S rfl rfl rfl one3 (fun _ s => s.objCell 1 3 rfl rfl) ?_; clear E a; intro a E
          refine Run.fieldAddr rfl E rfl rfl rfl fo34_3 (rfl) ?_; clear E a; intro a E
          refine Run.load1 rfl rfl E S rfl rfl rfl one3 (fun _ s => s.objCell 0 3 rfl rfl) ?_; clear E a; intro a E
          by_cases h3 : s.pos = t.pos
          · skip
            refine Run.eqi rfl E rfl rfl rfl rfl (decide_eq_true (h3)) ?_; clear E a; intro a E
            refine Run.pickT rfl E rfl rfl rfl rfl ?_; clear E a; intro a E
            refine Run.move rfl E rfl rfl rfl ?_; clear E a; intro a E
            refine Run.fieldAddr rfl E rfl rfl rfl fo34_4 (rfl) ?_; clear E a; intro a E
            refine Run.load1 rfl rfl E S rfl rfl rfl one3 (fun _ s => s.objCell 1 4 rfl rfl) ?_; clear E a; intro a E
            refine Run.fieldAddr rfl E rfl rfl rfl fo34_4 (rfl) ?_; clear E a; intro a E
            refine Run.load1 rfl rfl E S rfl rfl rfl one3 (fun _ s => s.objCell 0 4 rfl rfl) ?_; clear E a; intro a E
            by_cases h4 : s.start = t.start
            · skip
              refine Run.eqi rfl E rfl rfl rfl rfl (decide_eq_true (h4)) ?_; clear E a; intro a E
              refine Run.pickT rfl E rfl rfl rfl rfl ?_; clear E a; intro a E
              refine Run.move rfl E rfl rfl rfl ?_; clear E a; intro a E
              refine Run.fieldAddr rfl E rfl rfl rfl fo34_5 (rfl) ?_; clear E a; intro a E
              refine Run.load1 rfl rfl E S rfl rfl rfl one3 (fun _ s => s.objCell 1 5 rfl rfl) ?_; clear E a; intro a E
              refine Run.fieldAddr rfl E rfl rfl rfl fo34_5 (rfl) ?_; clear E a; intro a E
              refine Run.load1 rfl rfl E S rfl rfl rfl one3 (fun _ s => s.objCell 0 5 rfl rfl) ?_; clear E a; intro a E
              by_cases h5 : s.depth = t.depth
              · skip
                refine Run.eqi rfl E rfl rfl rfl rfl (decide_eq_true (h5)) ?_; clear E a; intro a E
                refine Run.pickT rfl E rfl rfl rfl rfl ?_; clear E a; intro a E
                refine Run.move rfl E rfl rfl rfl ?_; clear E a; intro a E
                refine Run.fieldAddr rfl E rfl rfl rfl fo34_6 (rfl) ?_; clear E a; intro a E
                refine Run.load1 rfl rfl E S rfl rfl rfl one3 (fun _ s => s.objCell 1 6 rfl rfl) ?_; clear E a; intro a E
                refine Run.fieldAddr rfl E rfl rfl rfl fo34_6 (rfl) ?_; clear E a; intro a E
                refine Run.load1 rfl rfl E S rfl rfl rfl one3 (fun _ s => s.objCell 0 6 rfl rfl) ?_; clear E a; intro a E
                by_cases h6 : s.org = t.org
                · skip
                  refine Run.eqi rfl E rfl rfl rfl rfl (decide_eq_true (h6)) ?_; clear E a; intro a E
                  refine Run.pickT rfl E rfl rfl rfl rfl ?_; clear E a; intro a E
                  refine Run.move rfl E rfl rfl rfl ?_; clear E a; intro a E
                  refine Run.fieldAddr rfl E rfl rfl rfl fo34_7 (rfl) ?_; clear E a; intro a E
                  refine Run.load1 rfl rfl E S rfl rfl rfl one32 (fun _ s => s.objCell 1 7 rfl rfl) ?_; clear E a; intro a E
                  refine Run.len rfl E rfl rfl rfl Try.underlying32 ?_; clear E a; intro a E
                  refine Run.fieldAddr rfl E rfl rfl rfl fo34_7 (rfl) ?_; clear E a; intro a E
                  refine Run.load1 rfl rfl E S rfl rfl rfl one32 (fun _ s => s.objCell 0 7 rfl rfl) ?_; clear E a; intro a E
                  refine Run.len rfl E rfl rfl rfl Try.underlying32 ?_; clear E a; intro a E
                  by_cases h7 : s.caps.length = t.caps.length
                  · skip
                    refine Run.eqi rfl E rfl rfl rfl rfl (decide_eq_true (congrArg Int.ofNat h7)) ?_; clear E a; intro a E
                    refine Run.pickT rfl E rfl rfl rfl rfl ?_; clear E a; intro a E
                    refine Run.assign rfl E rfl rfl rfl ?_; clear E a; intro a E
                    refine Run.nil ?_
                    refine then_n ?_
                    replace E := E.setb 7 rfl (show true = samB s t 0 by rw [samB_zero]; simp [h0, h1, h2, h3, h4, h5, h6, h7])
                    exact ⟨E.keeps [(2, _), (3, _), (4, _), (6, _), (7, _)] ⟨rfl, rfl, rfl, rfl, rfl, trivial⟩, S⟩
                  · skip
                    refine Run.eqi rfl E rfl rfl rfl rfl (decide_eq_false (fun e => h7 (by omega))) ?_; clear E a; intro a E
                    refine Run.pickT rfl E rfl rfl rfl rfl ?_; clear E a; intro a E
                    refine Run.assign rfl E rfl rfl rfl ?_; clear E a; intro a E
                    refine Run.nil ?_
                    refine then_n ?_
                    replace E := E.setb 7 rfl (show false = samB s t 0 by rw [samB_zero]; simp [h0, h1, h2, h3, h4, h5, h6, h7])
                    exact ⟨E.keeps [(2, _), (3, _), (4, _), (6, _), (7, _)] ⟨rfl, rfl, rfl, rfl, rfl, trivial⟩, S⟩
                · skip
                  refine Run.eqi rfl E rfl rfl rfl rfl (decide_eq_false (h6)) ?_; clear E a; intro a E
                  refine Run.pickT rfl E rfl rfl rfl rfl ?_; clear E a; intro a E
                  refine Run.move rfl E rfl rfl rfl ?_; clear E a; intro a E
                  refine Run.off rfl E rfl rfl ?_; clear E a; intro a E
                  refine Run.off rfl E rfl rfl ?_; clear E a; intro a E
                  refine Run.off rfl E rfl rfl ?_; clear E a; intro a E
                  refine Run.off rfl E rfl rfl ?_; clear E a; intro a E
                  refine Run.off rfl E rfl rfl ?_; clear E a; intro a E
                  refine Run.off rfl E rfl rfl ?_; clear E a; intro a E
                  refine Run.off rfl E rfl rfl ?_; clear E a; intro a E
                  refine Run.pickF rfl E rfl rfl rfl rfl ?_; clear E a; intro a E
                  refine Run.assign rfl E rfl rfl rfl ?_; clear E a; intro a E
                  refine Run.nil ?_
                  refine then_n ?_
                  replace E := E.setb 7 rfl (show false = samB s t 0 by rw [samB_zero]; simp [h0, h1, h2, h3, h4, h5, h6])
                  exact ⟨E.keeps [(2, _), (3, _), (4, _), (6, _), (7, _)] ⟨rfl, rfl, rfl, rfl, rfl, trivial⟩, S⟩
              · skip
                refine Run.eqi rfl E rfl rfl rfl rfl (decide_eq_false (h5)) ?_; clear E a; intro a E
                refine Run.pickT rfl E rfl rfl rfl rfl ?_; clear E a; intro a E
                refine Run.move rfl E rfl rfl rfl ?_; clear E a; intro a E
                refine Run.off rfl E rfl rfl ?_; clear E a; intro a E
                refine Run.off rfl E rfl rfl ?_; clear E a; intro a E
                refine Run.off rfl E rfl rfl ?_; clear E a; intro a E
                refine Run.off rfl E rfl rfl ?_; clear E a; intro a E
                refine Run.off rfl E rfl rfl ?_; clear E a; intro a E
                refine Run.pickF rfl E rfl rfl rfl rfl ?_; clear E a; intro a E
                refine Run.move rfl E rfl rfl rfl ?_; clear E a; intro a E
                refine Run.off rfl E rfl rfl ?_; clear E a; intro a E
                refine Run.off rfl E rfl rfl ?_; clear E a; intro a E
                refine Run.off rfl E rfl rfl ?_; clear E a; intro a E
                refine Run.off rfl E rfl rfl ?_; clear E a; intro a E
                refine Run.off rfl E rfl rfl ?_; clear E a; intro a E
                refine Run.off rfl E rfl rfl ?_; clear E a; intro a E
                refine Run.off rfl E rfl rfl ?_; clear E a; intro a E
                refine Run.pickF rfl E rfl rfl rfl rfl ?_; clear E a; intro a E
                refine Run.assign rfl E rfl rfl rfl ?_; clear E a; intro a E
                refine Run.nil ?_
                refine then_n ?_
                replace E := E.setb 7 rfl (show false = samB s t 0 by rw [samB_zero]; simp [h0, h1, h2, h3, h4, h5])
                exact ⟨E.keeps [(2, _), (3, _), (4, _), (6, _), (7, _)] ⟨rfl, rfl, rfl, rfl, rfl, trivial⟩, S⟩
            · skip
              refine Run.eqi rfl E rfl rfl rfl rfl (decide_eq_false (h4)) ?_; clear E a; intro a E
              refine Run.pickT rfl E rfl rfl rfl rfl ?_; clear E a; intro a E
              refine Run.move rfl E rfl rfl rfl ?_; clear E a; intro a E
              refine Run.off rfl E rfl rfl ?_; clear E a; intro a E
              refine Run.off rfl E rfl rfl ?_; clear E a; intro a E
              refine Run.off rfl E rfl rfl ?_; clear E a; intro a E
              refine Run.off rfl E rfl rfl ?_; clear E a; intro a E
              refine Run.off rfl E rfl rfl ?_; clear E a; intro a E
              refine Run.pickF rfl E rfl rfl rfl rfl ?_; clear E a; intro a E
              refine Run.move rfl E rfl rfl rfl ?_; clear E a; intro a E
              refine Run.off rfl E rfl rfl ?_; clear E a; intro a E
              refine Run.off rfl E rfl rfl ?_; clear E a; intro a E
              refine Run.off rfl E rfl rfl ?_; clear E a; intro a E
              refine Run.off rfl E rfl rfl ?_; clear E a; intro a E
              refine Run.off rfl E rfl rfl ?_; clear E a; intro a E
              refine Run.pickF rfl E rfl rfl rfl rfl ?_; clear E a; intro a E
              refine Run.move rfl E rfl rfl rfl ?_; clear E a; intro a E
              refine Run.off rfl E rfl rfl ?_; clear E a; intro a E
              refine Run.off rfl E rfl rfl ?_; clear E a; intro a E
              refine Run.off rfl E rfl rfl ?_; clear E a; intro a E
              refine Run.off rfl E rfl rfl ?_; clear E a; intro a E
              refine Run.off rfl E rfl rfl ?_; clear E a; intro a E
              refine Run.off rfl E rfl rfl ?_; clear E a; intro a E
              refine Run.off rfl E rfl rfl ?_; clear E a; intro a E
              refine Run.pickF rfl E rfl rfl rfl rfl ?_; clear E a; intro a E
              refine Run.assign rfl E rfl rfl rfl ?_; clear E a; intro a E
              refine Run.nil ?_
              refine then_n ?_
              replace E := E.setb 7 rfl (show false = samB s t 0 by rw [samB_zero]; simp [h0, h1, h2, h3, h4])
              exact ⟨E.keeps [(2, _), (3, _), (4, _), (6, _), (7, _)] ⟨rfl, rfl, rfl, rfl, rfl, trivial⟩, S⟩
          · skip
            refine Run.eqi rfl E rfl rfl rfl rfl (decide_eq_false (h3)) ?_; clear E a; intro a E
            refine Run.pickT rfl E rfl rfl rfl rfl ?_; clear E a; intro a E
            refine Run.move rfl E rfl rfl rfl ?_; clear E a; intro a E
            refine Run.off rfl E rfl rfl ?_; clear E a; intro a E
            refine Run.off rfl E rfl rfl ?_; clear E a; intro a E
            refine Run.off rfl E rfl rfl ?_; clear E a; intro a E
            refine Run.off rfl E rfl rfl ?_; clear E a; intro a E
            refine Run.off rfl E rfl rfl ?_; clear E a; intro a E
            refine Run.pickF rfl E rfl rfl rfl rfl ?_; clear E a; intro a E
            refine Run.move rfl E rfl rfl rfl ?_; clear E a; intro a E
            refine Run.off rfl E rfl rfl ?_; clear E a; intro a E
            refine Run.off rfl E rfl rfl ?_; clear E a; intro a E
            refine Run.off rfl E rfl rfl ?_; clear E a; intro a E
            refine Run.off rfl E rfl rfl ?_; clear E a; intro a E
            refine Run.off rfl E rfl rfl ?_; clear E a; intro a E
            refine Run.pickF rfl E rfl rfl rfl rfl ?_; clear E a; intro a E
            refine Run.move rfl E rfl rfl rfl ?_; clear E a; intro a E
            refine Run.off rfl E rfl rfl ?_; clear E a; intro a E
            refine Run.off rfl E rfl rfl ?_; clear E a; intro a E
            refine Run.off rfl E rfl rfl ?_; clear E a; intro a E
            refine Run.off rfl E rfl rfl ?_; clear E a; intro a E
            refine Run.off rfl E rfl rfl ?_; clear E a; intro a E
            refine Run.pickF rfl E rfl rfl rfl rfl ?_; clear E a; intro a E
            refine Run.move rfl E rfl rfl rfl ?_; clear E a; intro a E
            refine Run.off rfl E rfl rfl ?_; clear E a; intro a E
            refine Run.off rfl E rfl rfl ?_; clear E a; intro a E
            refine Run.off rfl E rfl rfl ?_; clear E a; intro a E
            refine Run.off rfl E rfl rfl ?_; clear E a; intro a E
            refine Run.off rfl E rfl rfl ?_; clear E a; intro a E
            refine Run.off rfl E rfl rfl ?_; clear E a; intro a E
            refine Run.off rfl E rfl rfl ?_; clear E a; intro a E
            refine Run.pickF rfl E rfl rfl rfl rfl ?_; clear E a; intro a E
            refine Run.assign rfl E rfl rfl rfl ?_; clear E a; intro a E
            refine Run.nil ?_
            refine then_n ?_
            replace E := E.setb 7 rfl (show false = samB s t 0 by rw [samB_zero]; simp [h0, h1, h2, h3])
            exact ⟨E.keeps [(2, _), (3, _), (4, _), (6, _), (7, _)] ⟨rfl, rfl, rfl, rfl, rfl, trivial⟩, S⟩
        · skip
          refine Run.eqi rfl E rfl rfl rfl rfl (decide_eq_false (h2)) ?_; clear E a; intro a E
          refine Run.pickT rfl E rfl rfl rfl rfl ?_; clear E a; intro a E
          refine Run.move rfl E rfl rfl rfl ?_; clear E a; intro a E
          refine Run.off rfl E rfl rfl ?_; clear E a; intro a E
          refine Run.off rfl E rfl rfl ?_; clear E a; intro a E
          refine Run.off rfl E rfl rfl ?_; clear E a; intro a E
          refine Run.off rfl E rfl rfl ?_; clear E a; intro a E
          refine Run.off rfl E rfl rfl ?_; clear E a; intro a E
          refine Run.pickF rfl E rfl rfl rfl rfl ?_; clear E a; intro a E
          refine Run.move rfl E rfl rfl rfl ?_; clear E a; intro a E
          refine Run.off rfl E rfl rfl ?_; clear E a; intro a E
          refine Run.off rfl E rfl rfl ?_; clear E a; intro a E
          refine Run.off rfl E rfl rfl ?_; clear E a; intro a E
          refine Run.off rfl E rfl rfl ?_; clear E a; intro a E
          refine Run.off rfl E rfl rfl ?_; clear E a; intro a E
          refine Run.pickF rfl E rfl rfl rfl rfl ?_; clear E a; intro a E
          refine Run.move rfl E rfl rfl rfl ?_; clear E a; intro a E
          refine Run.off rfl E rfl rfl ?_; clear E a; intro a E
          refine Run.off rfl E rfl rfl ?_; clear E a; intro a E
          refine Run.off rfl E rfl rfl ?_; clear E a; intro a E
          refine Run.off rfl E rfl rfl ?_; clear E a; intro a E
          refine Run.off rfl E rfl rfl ?_; clear E a; intro a E
          refine Run.pickF rfl E rfl rfl rfl rfl ?_; clear E a; intro a E
          refine Run.move rfl E rfl rfl rfl ?_; clear E a; intro a E
          refine Run.off rfl E rfl rfl ?_; clear E a; intro a E
          refine Run.off rfl E rfl rfl ?_; clear E a; intro a E
          refine Run.off rfl E rfl rfl ?_; clear E a; intro a E
          refine Run.off rfl E rfl rfl ?_; clear E a; intro a E
          refine Run.off rfl E rfl rfl ?_; clear E a; intro a E
          refine Run.pickF rfl E rfl rfl rfl rfl ?_; clear E a; intro a E
          refine Run.move rfl E rfl rfl rfl ?_; clear E a; intro a E
          refine Run.off rfl E rfl rfl ?_; clear E a; intro a E
          refine Run.off rfl E rfl rfl ?_; clear E a; intro a E
          refine Run.off rfl E rfl rfl ?_; clear E a; intro a E
          refine Run.off rfl E rfl rfl ?_; clear E a; intro a E
          refine Run.off rfl E rfl rfl ?_; clear E a; intro a E
          refine Run.off rfl E rfl rfl ?_; clear E a; intro a E
          refine Run.off rfl E rfl rfl ?_; clear E a; intro a E
          refine Run.pickF rfl E rfl rfl rfl rfl ?_; clear E a; intro a E
          refine Run.assign rfl E rfl rfl rfl ?_; clear E a; intro a E
          refine Run.nil ?_
          refine then_n ?_
          replace E := E.setb 7 rfl (show false = samB s t 0 by rw [samB_zero]; simp [h0, h1, h2])
          exact ⟨E.keeps [(2, _), (3, _), (4, _), (6, _), (7, _)] ⟨rfl, rfl, rfl, rfl, rfl, trivial⟩, S⟩
      · skip
        refine Run.eqi rfl E rfl rfl rfl rfl (decide_eq_false (h1)) ?_; clear E a; intro a E
        refine Run.pickT rfl E rfl rfl rfl rfl ?_; clear E a; intro a E
        refine Run.move rfl E rfl rfl rfl ?_; clear E a; intro a E
        refine Run.off rfl E rfl rfl ?_; clear E a; intro a E
        refine Run.off rfl E rfl rfl ?_; clear E a; intro a E
        refine Run.off rfl E rfl rfl ?_; clear E a; intro a E
        refine Run.off rfl E rfl rfl ?_; clear E a; intro a E
        refine Run.off rfl E rfl rfl ?_; clear E a; intro a E
        refine Run.pickF rfl E rfl rfl rfl rfl ?_; clear E a; intro a E
        refine Run.move rfl E rfl rfl rfl ?_; clear E a; intro a E
        refine Run.off rfl E rfl rfl ?_; clear E a; intro a E
        refine Run.off rfl E rfl rfl ?_; clear E a; intro a E
        refine Run.off rfl E rfl rfl ?_; clear E a; intro a E
        refine Run.off rfl E rfl rfl ?_; clear E a; intro a E
        refine Run.off rfl E rfl rfl ?_; clear E a; intro a E
        refine Run.pickF rfl E rfl rfl rfl rfl ?_; clear E a; intro a E
        refine Run.move rfl E rfl rfl rfl ?_; clear E a; intro a E
        refine Run.off rfl E rfl rfl ?_; clear E a; intro a E
        refine Run.off rfl E rfl rfl ?_; clear E a; intro a E
        refine Run.off rfl E rfl rfl ?_; clear E a; intro a E
        refine Run.off rfl E rfl rfl ?_; clear E a; intro a E
        refine Run.off rfl E rfl rfl ?_; clear E a; intro a E
        refine Run.pickF rfl E rfl rfl rfl rfl ?_; clear E a; intro a E
        refine Run.move rfl E rfl rfl rfl ?_; clear E a; intro a E
        refine Run.off rfl E rfl rfl ?_; clear E a; intro a E
        refine Run.off rfl E rfl rfl ?_; clear E a; intro a E
        refine Run.off rfl E rfl rfl ?_; clear E a; intro a E
        refine Run.off rfl E rfl rfl ?_; clear E a; intro a E
        refine Run.off rfl E rfl rfl ?_; clear E a; intro a E
        refine Run.pickF rfl E rfl rfl rfl rfl ?_; clear E a; intro a E
        refine Run.move rfl E rfl rfl rfl ?_; clear E a; intro a E
        refine Run.off rfl E rfl rfl ?_; clear E a; intro a E
        refine Run.off rfl E rfl rfl ?_; clear E a; intro a E
        refine Run.off rfl E rfl rfl ?_; clear E a; intro a E
        refine Run.off rfl E rfl rfl ?_; clear E a; intro a E
        refine Run.off rfl E rfl rfl ?_; clear E a; intro a E
        refine Run.pickF rfl E rfl rfl rfl rfl ?_; clear E a; intro a E
        refine Run.move rfl E rfl rfl rfl ?_; clear E a; intro a E
        refine Run.off rfl E rfl rfl ?_; clear E a; intro a E
        refine Run.off rfl E rfl rfl ?_; clear E a; intro a E
        refine Run.off rfl E rfl rfl ?_; clear E a; intro a E
        refine Run.off rfl E rfl rfl ?_; clear E a; intro a E
        refine Run.off rfl E rfl rfl ?_; clear E a; intro a E
        refine Run.off rfl E rfl rfl ?_; clear E a; intro a E
        refine Run.off rfl E rfl rfl ?_; clear E a; intro a E
        refine Run.pickF rfl E rfl rfl rfl rfl ?_; clear E a; intro a E
        refine Run.assign rfl E rfl rfl rfl ?_; clear E a; intro a E
        refine Run.nil ?_
        refine then_n ?_
        replace E := E.setb 7 rfl (show false = samB s t 0 by rw [samB_zero]; simp [h0, h1])
        exact ⟨E.keeps [(2, _), (3, _), (4, _), (6, _), (7, _)] ⟨rfl, rfl, rfl, rfl, rfl, trivial⟩, S⟩
    · skip
      refine Run.eqi rfl E rfl rfl rfl rfl (decide_eq_false (h0)) ?_; clear E a; intro a E
      refine Run.move rfl E rfl rfl rfl ?_; clear E a; intro a E
      refine Run.off rfl E rfl rfl ?_; clear E a; intro a E
      refine Run.off rfl E rfl rfl ?_; clear E a; intro a E
      refine Run.off rfl E rfl rfl ?_; clear E a; intro a E
      refine Run.off rfl E rfl rfl ?_; clear E a; intro a E
      refine Run.off rfl E rfl rfl ?_; clear E a; intro a E
      refine Run.pickF rfl E rfl rfl rfl rfl ?_; clear E a; intro a E
      refine Run.move rfl E rfl rfl rfl ?_; clear E a; intro a E
      refine Run.off rfl E rfl rfl ?_; clear E a; intro a E
      refine Run.off rfl E rfl rfl ?_; clear E a; intro a E
      refine Run.off rfl E rfl rfl ?_; clear E a; intro a E
      refine Run.off rfl E rfl rfl ?_; clear E a; intro a E
      refine Run.off rfl E rfl rfl ?_; clear E a; intro a E
      refine Run.pickF rfl E rfl rfl rfl rfl ?_; clear E a; intro a E
      refine Run.move rfl E rfl rfl rfl ?_; clear E a; intro a E
      refine Run.off rfl E rfl rfl ?_; clear E a; intro a E
      refine Run.off rfl E rfl rfl ?_; clear E a; intro a E
      refine Run.off rfl E rfl rfl ?_; clear E a; intro a E
      refine Run.off rfl E rfl rfl ?_; clear E a; intro a E
      refine Run.off rfl E rfl rfl ?_; clear E a; intro a E
      refine Run.pickF rfl E rfl rfl rfl rfl ?_; clear E a; intro a E
      refine Run.move rfl E rfl rfl rfl ?_; clear E a; intro a E
      refine Run.off rfl E rfl rfl ?_; clear E a; intro a E
      refine Run.off rfl E rfl rfl ?_; clear E a; intro a E
      refine Run.off rfl E rfl rfl ?_; clear E a; intro a E
      refine Run.off rfl E rfl rfl ?_; clear E a; intro a E
      refine Run.off rfl E rfl rfl ?_; clear E a; intro a E
      refine Run.pickF rfl E rfl rfl rfl rfl ?_; clear E a; intro a E
      refine Run.move rfl E rfl rfl rfl ?_; clear E a; intro a E
      refine Run.off rfl E rfl rfl ?_; clear E a; intro a E
      refine Run.off rfl E rfl rfl ?_; clear E a; intro a E
      refine Run.off rfl E rfl rfl ?_; clear E a; intro a E
      refine Run.off rfl E rfl rfl ?_; clear E a; intro a E
      refine Run.off rfl E rfl rfl ?_; clear E a; intro a E
      refine Run.pickF rfl E rfl rfl rfl rfl ?_; clear E a; intro a E
      refine Run.move rfl E rfl rfl rfl ?_; clear E a; intro a E
      refine Run.off rfl E rfl rfl ?_; clear E a; intro a E
      refine Run.off rfl E rfl rfl ?_; clear E a; intro a E
      refine Run.off rfl E rfl rfl ?_; clear E a; intro a E
      refine Run.off rfl E rfl rfl ?_; clear E a; intro a E
      refine Run.off rfl E rfl rfl ?_; clear E a; intro a E
      refine Run.pickF rfl E rfl rfl rfl rfl ?_; clear E a; intro a E
      refine Run.move rfl E rfl rfl rfl ?_; clear E a; intro a E
      refine Run.off rfl E rfl rfl ?_; clear E a; intro a E
      refine Run.off rfl E rfl rfl ?_; clear E a; intro a E
      refine Run.off rfl E rfl rfl ?_; clear E a; intro a E
      refine Run.off rfl E rfl rfl ?_; clear E a; intro a E
      refine Run.off rfl E rfl rfl ?_; clear E a; intro a E
      refine Run.off rfl E rfl rfl ?_; clear E a; intro a E
      refine Run.off rfl E rfl rfl ?_; clear E a; intro a E
      refine Run.pickF rfl E rfl rfl rfl rfl ?_; clear E a; intro a E
      refine Run.assign rfl E rfl rfl rfl ?_; clear E a; intro a E
      refine Run.nil ?_
      refine then_n ?_
      replace E := E.setb 7 rfl (show false = samB s t 0 by rw [samB_zero]; simp [h0])
      exact ⟨E.keeps [(2, _), (3, _), (4, _), (6, _), (7, _)] ⟨rfl, rfl, rfl, rfl, rfl, trivial⟩, S⟩
  clear E a S
  rintro a w ⟨E, S⟩
  refine wp_seq ?_
  refine wp_seq ?_
  refine region_plain (n := 8) [(0, .p), (1, .l), (2, .p), (3, .p), (4, .l), (5, .p), (6, .p), (7, .p)] rfl rfl ?_
  refine Run.fieldAddr rfl E rfl rfl rfl fo34_7 (rfl) ?_; clear E a; intro a E
  refine Run.load1 rfl rfl E S rfl rfl rfl one32 (fun _ s => s.objCell 1 7 rfl rfl) ?_; clear E a; intro a E
  refine Run.len rfl E rfl rfl rfl Try.underlying32 ?_; clear E a; intro a E
  refine Run.fieldAddr rfl E rfl rfl rfl fo34_7 (rfl) ?_; clear E a; intro a E
  refine Run.load1 rfl rfl E S rfl rfl rfl one32 (fun _ s => s.objCell 0 7 rfl rfl) ?_; clear E a; intro a E
  refine Run.len rfl E rfl rfl rfl Try.underlying32 ?_; clear E a; intro a E
  refine Run.min rfl E rfl rfl rfl rfl (q := (n : Int)) (by split <;> omega) ?_; clear E a; intro a E
  refine Run.move rfl E rfl rfl rfl ?_; clear E a; intro a E
  refine Run.nil ?_
  refine then_n ?_
  refine wp_block ?_
  refine wp_loop_ghost (fun n_ a w => ∃ i : Nat, n - i = n_ ∧ Env 147 [(2, .int .i64 x), (3, .pointer (some ⟨b1, 0, none⟩)), (4, .pointer (some ⟨b2, 0, none⟩)), (6, .bool false), (7, .bool (samB s t i)), (77, .int .i64 (n : Int)), (78, .int .i64 (i : Int))] a ∧ St _ _ w [.obj b2 34 [.int .i64 t.kind, .int .i64 t.node, .int .i64 t.phase, .int .i64 t.pos, .int .i64 t.start, .int .i64 t.depth, .int .i64 t.org, .slice B t.caps.length d], .obj b1 34 [.int .i64 s.kind, .int .i64 s.node, .int .i64 s.phase, .int .i64 s.pos, .int .i64 s.start, .int .i64 s.depth, .int .i64 s.org, .slice A s.caps.length c]] ∧ (i ≤ n)) _ ⟨0, rfl, E.keeps [(2, _), (3, _), (4, _), (6, _), (7, _), (77, _), (78, _)] ⟨rfl, rfl, rfl, rfl, rfl, rfl, rfl, trivial⟩, S, Nat.zero_le _⟩ ?_
  clear E a S
  rintro n_ a w ⟨i, rfl, E, S, hi⟩
  refine wp_seq ?_
  refine region_plain (n := 1) [(0, .p)] rfl rfl ?_
  by_cases hlt : i < n
  · skip
    refine Run.lss rfl E rfl rfl rfl rfl (decide_eq_true (by omega)) ?_; clear E a; intro a E
    refine Run.nil ?_
    refine then_n ?_
    refine wp_seq ?_
    refine cond_T E rfl ?_
    refine wp_skip ?_
    refine then_n ?_
    refine wp_seq ?_
    refine wp_block ?_
    refine wp_seq ?_
    refine region_plain (n := 2) [(0, .p), (1, .p)] rfl rfl ?_
    refine Run.move rfl E rfl rfl rfl ?_; clear E a; intro a E
    refine Run.assign rfl E rfl rfl rfl ?_; clear E a; intro a E
    rcases Bool.eq_false_or_eq_true (samB s t i) with hb | hb
    · replace E := E.setb 7 rfl hb
      obtain ⟨bA, oA, rfl, hA⟩ := H1.place (by omega)
      obtain ⟨bB, oB, rfl, hB⟩ := H2.place (by omega)
      refine Run.nil ?_
      refine then_n ?_
      refine region_drawS (n := 15) [(0, .p), (1, .p), (2, .p), (4, .p), (7, .p), (9, .p), (3, .t), (5, .p), (6, .t), (8, .t), (10, .p), (11, .t), (12, .p), (13, .p), (14, .p)] [0, 1, 3, 7, 3, 31, 63, 3, 131, 3, 899, 1923, 4095, 8191, 16383] S mixed rfl rfl (by kernel_rfl) (fun _ _ _ _ _ h => h) ?_; clear S; intro w S B_; clear B_
      refine Run.move rfl E rfl rfl rfl ?_; clear E a; intro a E
      refine Run.move rfl E rfl rfl rfl ?_; clear E a; intro a E
      refine Run.fieldAddr rfl E rfl rfl rfl fo34_7 (rfl) ?_; clear E a; intro a E
      refine Run.move rfl E rfl rfl rfl ?_; clear E a; intro a E
      refine Run.fieldAddr rfl E rfl rfl rfl fo34_7 (rfl) ?_; clear E a; intro a E
      refine Run.move rfl E rfl rfl rfl ?_; clear E a; intro a E
      refine Run.load1 rfl rfl E S rfl rfl rfl one32 (fun _ s => s.objCell 1 7 rfl rfl) ?_; clear E a; intro a E
      refine Run.indexAddr rfl E rfl rfl rfl rfl Try.underlying32 sz3 (by omega) (ix_at1 (m' := i) (by omega)) ?_; clear E a; intro a E
      refine Run.load1 rfl rfl E S rfl rfl rfl one3 (fun _ s_ => rdAt1 hA s_ (ints_get' ((List.getElem?_eq_getElem (by omega) : s.caps[i]? = some (s.caps[i]'(by omega)))))) ?_; clear E a; intro a E
      refine Run.load1 rfl rfl E S rfl rfl rfl one32 (fun _ s => s.objCell 0 7 rfl rfl) ?_; clear E a; intro a E
      refine Run.indexAddr rfl E rfl rfl rfl rfl Try.underlying32 sz3 (by omega) (ix_at1 (m' := i) (by omega)) ?_; clear E a; intro a E
      refine Run.load1 rfl rfl E S rfl rfl rfl one3 (fun _ s_ => rdAt1 hB s_ (ints_get' ((List.getElem?_eq_getElem (by omega) : t.caps[i]? = some (t.caps[i]'(by omega)))))) ?_; clear E a; intro a E
      by_cases he : s.caps[i]'(by omega) = t.caps[i]'(by omega)
      · skip
        refine Run.eqi rfl E rfl rfl rfl rfl (decide_eq_true (he)) ?_; clear E a; intro a E
        refine Run.pickT rfl E rfl rfl rfl rfl ?_; clear E a; intro a E
        refine Run.assign rfl E rfl rfl rfl ?_; clear E a; intro a E
        refine Run.nil ?_
        refine blk_n ?_
        refine then_n ?_
        refine region_plain (n := 2) [(0, .p), (1, .p)] rfl rfl ?_
        refine Run.add rfl E rfl rfl rfl rfl (i64_ok (by omega)) ?_; clear E a; intro a E
        refine Run.move rfl E rfl rfl rfl ?_; clear E a; intro a E
        refine Run.nil ?_
        refine then_n ?_
        replace E := E.setv 78 rfl (show Value.int .i64 ((i : Int) + 1) = .int .i64 ((i + 1 : Nat) : Int) from rfl)
        replace E := E.setb 7 rfl (samB_of (s := s) (t := t) hb (by rw [List.getElem?_eq_getElem (show i < s.caps.length by omega), List.getElem?_eq_getElem (show i < t.caps.length by omega), he]))
        exact ⟨_, (by omega), (i + 1), rfl, E.keeps [(2, _), (3, _), (4, _), (6, _), (7, _), (77, _), (78, _)] ⟨rfl, rfl, rfl, rfl, rfl, rfl, rfl, trivial⟩, S, (by omega)⟩
      · skip
        refine Run.eqi rfl E rfl rfl rfl rfl (decide_eq_false (he)) ?_; clear E a; intro a E
        refine Run.pickT rfl E rfl rfl rfl rfl ?_; clear E a; intro a E
        refine Run.assign rfl E rfl rfl rfl ?_; clear E a; intro a E
        refine Run.nil ?_
        refine blk_n ?_
        refine then_n ?_
        refine region_plain (n := 2) [(0, .p), (1, .p)] rfl rfl ?_
        refine Run.add rfl E rfl rfl rfl rfl (i64_ok (by omega)) ?_; clear E a; intro a E
        refine Run.move rfl E rfl rfl rfl ?_; clear E a; intro a E
        refine Run.nil ?_
        refine then_n ?_
        replace E := E.setv 78 rfl (show Value.int .i64 ((i : Int) + 1) = .int .i64 ((i + 1 : Nat) : Int) from rfl)
        replace E := E.setb 7 rfl (samB_ne (s := s) (t := t) (fun h => he (by rw [List.getElem?_eq_getElem (show i < s.caps.length by omega), List.getElem?_eq_getElem (show i < t.caps.length by omega)] at h; exact Option.some.inj h)))
        exact ⟨_, (by omega), (i + 1), rfl, E.keeps [(2, _), (3, _), (4, _), (6, _), (7, _), (77, _), (78, _)] ⟨rfl, rfl, rfl, rfl, rfl, rfl, rfl, trivial⟩, S, (by omega)⟩
    · replace E := E.setb 7 rfl hb
      refine Run.nil ?_
      refine then_n ?_
      refine region_drawS (n := 15) [(0, .p), (1, .p), (2, .p), (3, .p), (4, .p), (5, .p), (6, .p), (7, .p), (8, .p), (9, .p), (10, .p), (11, .p), (12, .p), (13, .p), (14, .p)] [0, 1, 3, 7, 3, 31, 63, 3, 131, 3, 899, 1923, 4095, 8191, 16383] S mixed rfl rfl (by kernel_rfl) (fun _ _ _ _ _ h => h) ?_; clear S; intro w S B_; clear B_
      refine Run.move rfl E rfl rfl rfl ?_; clear E a; intro a E
      refine Run.move rfl E rfl rfl rfl ?_; clear E a; intro a E
      refine Run.off rfl E rfl rfl ?_; clear E a; intro a E
      refine Run.off rfl E rfl rfl ?_; clear E a; intro a E
      refine Run.off rfl E rfl rfl ?_; clear E a; intro a E
      refine Run.off rfl E rfl rfl ?_; clear E a; intro a E
      refine Run.off rfl E rfl rfl ?_; clear E a; intro a E
      refine Run.off rfl E rfl rfl ?_; clear E a; intro a E
      refine Run.off rfl E rfl rfl ?_; clear E a; intro a E
      refine Run.off rfl E rfl rfl ?_; clear E a; intro a E
      refine Run.off rfl E rfl rfl ?_; clear E a; intro a E
      refine Run.off rfl E rfl rfl ?_; clear E a; intro a E
      refine Run.off rfl E rfl rfl ?_; clear E a; intro a E
      refine Run.pickF rfl E rfl rfl rfl rfl ?_; clear E a; intro a E
      refine Run.assign rfl E rfl rfl rfl ?_; clear E a; intro a E
      refine Run.nil ?_
      refine blk_n ?_
      refine then_n ?_
      refine region_plain (n := 2) [(0, .p), (1, .p)] rfl rfl ?_
      refine Run.add rfl E rfl rfl rfl rfl (i64_ok (by omega)) ?_; clear E a; intro a E
      refine Run.move rfl E rfl rfl rfl ?_; clear E a; intro a E
      refine Run.nil ?_
      refine then_n ?_
      replace E := E.setv 78 rfl (show Value.int .i64 ((i : Int) + 1) = .int .i64 ((i + 1 : Nat) : Int) from rfl)
      replace E := E.setb 7 rfl (samB_ff hb)
      exact ⟨_, (by omega), (i + 1), rfl, E.keeps [(2, _), (3, _), (4, _), (6, _), (7, _), (77, _), (78, _)] ⟨rfl, rfl, rfl, rfl, rfl, rfl, rfl, trivial⟩, S, (by omega)⟩
  · skip
    obtain rfl : i = n := by omega
    refine Run.lss rfl E rfl rfl rfl rfl (decide_eq_false (by omega)) ?_; clear E a; intro a E
    refine Run.nil ?_
    refine then_n ?_
    refine wp_seq ?_
    refine cond_F E rfl ?_
    refine wp_exit ?_
    refine then_x ?_
    refine then_x ?_
    refine blk_x ?_
    refine then_n ?_
    refine wp_mid (fun a w => ∃ b9 : Nat, ∃ cB : Option Addr, ∃ cd : Nat, ∃ wA : Option Addr, ∃ wc : Nat, Env 147 [(2, .int .i64 x), (3, .pointer (some ⟨b1, 0, none⟩)), (4, .pointer (some ⟨b2, 0, none⟩)), (6, .bool false), (7, .bool (samB s t i)), (9, .pointer (some ⟨b9, 0, none⟩)), (10, .slice wA s.caps.length wc)] a ∧ St [] w0 w [.obj b1 34 [.int .i64 s.kind, .int .i64 s.node, .int .i64 s.phase, .int .i64 s.pos, .int .i64 s.start, .int .i64 s.depth, .int .i64 s.org, .slice A s.caps.length c], .obj b2 34 [.int .i64 t.kind, .int .i64 t.node, .int .i64 t.phase, .int .i64 t.pos, .int .i64 t.start, .int .i64 t.depth, .int .i64 t.org, .slice B t.caps.length d], .obj b9 34 [.int .i64 s.kind, .int .i64 s.node, .int .i64 s.phase, .int .i64 s.pos, .int .i64 s.start, .int .i64 s.depth, .int .i64 s.org, .slice cB s.caps.length cd], .row (.slice cB s.caps.length cd) 3 1 s.caps.length (ints s.caps), .row (.slice wA s.caps.length wc) 3 1 s.caps.length (ints s.caps)]) ?_ ?_
    · skip
      refine region_tree (n := 9) (.one 3 .p (.one 0 .t (.one 4 .t (.alt 1 (.alt 2 (.alt 5 (.one 6 .e (.one 7 .l (.one 8 .p .done))) (.alt 6 (.one 5 .e (.one 7 .l (.one 8 .p .done))) .none)) (.alt 6 (.one 2 .e (.one 5 .e (.one 7 .l (.one 8 .p .done)))) .none)) (.alt 2 (.alt 1 (.alt 5 (.one 6 .e (.one 7 .l (.one 8 .p .done))) (.alt 6 (.one 5 .e (.one 7 .l (.one 8 .p .done))) .none)) (.alt 6 (.one 1 .e (.one 5 .e (.one 7 .l (.one 8 .p .done)))) .none)) (.alt 6 (.alt 1 (.one 2 .e (.one 5 .e (.one 7 .l (.one 8 .p .done)))) (.alt 2 (.one 1 .e (.one 5 .e (.one 7 .l (.one 8 .p .done)))) .none)) .none)))))) [0, 1, 0, 0, 8, 31, 0, 127, 255] S mixed rfl rfl (by kernel_rfl) (fun _ _ _ _ _ h => h) ?_; clear S; intro w S B_; clear B_
      refine RunT.one ?_
      refine Run.fieldAddr rfl E rfl rfl rfl fo34_7 (rfl) ?_; clear E a; intro a E
      refine RunT.end ?_
      refine RunT.one ?_
      refine Run.loadN (cs := [.int .i64 s.kind, .int .i64 s.node, .int .i64 s.phase, .int .i64 s.pos, .int .i64 s.start, .int .i64 s.depth, .int .i64 s.org, .slice A s.caps.length c]) rfl rfl E S rfl rfl rfl ag34 rfl (fun _ s => objAll s 1 rfl) ?_; clear E a; intro a E
      refine RunT.end ?_
      refine RunT.one ?_
      refine Run.load1 rfl rfl E S rfl rfl rfl one32 (fun _ s => s.objCell 1 7 rfl rfl) ?_; clear E a; intro a E
      refine RunT.end ?_
      refine RunT.alt ?_ ?_
      · skip
        refine Run.call (args := [.agg #[.int .i64 s.kind, .int .i64 s.node, .int .i64 s.phase, .int .i64 s.pos, .int .i64 s.start, .int .i64 s.depth, .int .i64 s.org, .slice A s.caps.length c]]) rfl rfl E rfl rfl Try.func44 nm44 rfl rfl (own_walk (s := s) (H1.bel S.belT) (by omega)) ?_; rintro e_ w ⟨B3, d4, rfl, S_⟩; refine ⟨_, rfl, (fun _ => S_.belT), ?_⟩; clear E a; intro a E
        replace S : St _ _ _ [_, .obj _ _ [_, _, _, _, _, _, _, _], .obj _ _ [_, _, _, _, _, _, _, _]] := St.call (A := []) (R := [_, _]) S S_; clear S_
        refine RunT.end ?_
        refine RunT.alt ?_ ?_
        · skip
          refine Run.buildSlice (cs := []) [] rfl rfl E S rfl rfl rfl Try.underlying32 (by kernel_rfl) ?_; clear E a S; intro b5 w a E S B_; clear B_
          refine RunT.end ?_
          refine RunT.alt ?_ ?_
          · skip
            replace S : St _ _ _ [_, _, _, _] := S.objRow (sz := 1) (n := 0) 0 rfl rfl (Nat.zero_le _) rfl
            refine Run.appendE (news := ints s.caps) 0 rfl rfl E S rfl rfl rfl rfl rfl Try.underlying32 I3 rfl rfl (H1.bel S.belT) (ints_one _) (by omega) (by omega) ?_; clear E a S; intro A6 c7 w a E S B_; clear B_
            replace S : St _ _ _ [_, _, .obj _ _ [_, _, _, _, _, _, _, _], .obj _ _ [_, _, _, _, _, _, _, _]] := S
            refine RunT.end ?_
            refine RunT.one ?_
            refine Run.alloc rfl rfl E S rfl rfl z34 rfl ?_; clear E a S; intro b8 w a E S B_; clear B_
            refine RunT.end ?_
            refine RunT.one ?_
            refine Run.store (news := [.int .i64 s.kind, .int .i64 s.node, .int .i64 s.phase, .int .i64 s.pos, .int .i64 s.start, .int .i64 s.depth, .int .i64 s.org, .slice B3 s.caps.length d4]) (cs' := [_, _, _, _, _, _, _, _]) (hp' := [_, _, _, _, _]) 0 rfl E S rfl rfl rfl rfl rfl sz34 rfl rfl rfl rfl ?_; clear S; intro w S
            refine RunT.end ?_
            refine RunT.one ?_
            refine Run.assign rfl E rfl rfl rfl ?_; clear E a; intro a E
            refine RunT.end ?_
            refine RunT.done ?_
            refine then_n ?_
            have S : St _ _ _ [_, _, _, _, _] := S.sel [4, 3, 0, 2, 1] _ rfl rfl
            exact ⟨b8, B3, d4, A6, c7, E.keeps [(2, _), (3, _), (4, _), (6, _), (7, _), (9, _), (10, _)] ⟨rfl, rfl, rfl, rfl, rfl, rfl, rfl, trivial⟩, S⟩
          · skip
            refine RunT.alt ?_ ?_
            · skip
              refine Run.alloc rfl rfl E S rfl rfl z34 rfl ?_; clear E a S; intro b9 w a E S B_; clear B_
              refine RunT.end ?_
              refine RunT.one ?_
              replace S : St _ _ _ [_, _, _, _, _] := S.objRow (sz := 1) (n := 0) 1 rfl rfl (Nat.zero_le _) rfl
              refine Run.appendE (news := ints s.caps) 1 rfl rfl E S rfl rfl rfl rfl rfl Try.underlying32 I3 rfl rfl (H1.bel S.belT) (ints_one _) (by omega) (by omega) ?_; clear E a S; intro A10 c11 w a E S B_; clear B_
              replace S : St _ _ _ [.obj _ _ [_, _, _, _, _, _, _, _], _, _, .obj _ _ [_, _, _, _, _, _, _, _], .obj _ _ [_, _, _, _, _, _, _, _]] := S
              refine RunT.end ?_
              refine RunT.one ?_
              refine Run.store (news := [.int .i64 s.kind, .int .i64 s.node, .int .i64 s.phase, .int .i64 s.pos, .int .i64 s.start, .int .i64 s.depth, .int .i64 s.org, .slice B3 s.caps.length d4]) (cs' := [_, _, _, _, _, _, _, _]) (hp' := [_, _, _, _, _]) 0 rfl E S rfl rfl rfl rfl rfl sz34 rfl rfl rfl rfl ?_; clear S; intro w S
              refine RunT.end ?_
              refine RunT.one ?_
              refine Run.assign rfl E rfl rfl rfl ?_; clear E a; intro a E
              refine RunT.end ?_
              refine RunT.done ?_
              refine then_n ?_
              have S : St _ _ _ [_, _, _, _, _] := S.sel [4, 3, 0, 2, 1] _ rfl rfl
              exact ⟨b9, B3, d4, A10, c11, E.keeps [(2, _), (3, _), (4, _), (6, _), (7, _), (9, _), (10, _)] ⟨rfl, rfl, rfl, rfl, rfl, rfl, rfl, trivial⟩, S⟩
            · skip
              exact RunT.none
        · skip
          refine RunT.alt ?_ ?_
          · skip
            refine Run.alloc rfl rfl E S rfl rfl z34 rfl ?_; clear E a S; intro b12 w a E S B_; clear B_
            refine RunT.end ?_
            refine RunT.one ?_
            refine Run.buildSlice (cs := []) [] rfl rfl E S rfl rfl rfl Try.underlying32 (by kernel_rfl) ?_; clear E a S; intro b13 w a E S B_; clear B_
            refine RunT.end ?_
            refine RunT.one ?_
            replace S : St _ _ _ [_, _, _, _, _] := S.objRow (sz := 1) (n := 0) 0 rfl rfl (Nat.zero_le _) rfl
            refine Run.appendE (news := ints s.caps) 0 rfl rfl E S rfl rfl rfl rfl rfl Try.underlying32 I3 rfl rfl (H1.bel S.belT) (ints_one _) (by omega) (by omega) ?_; clear E a S; intro A14 c15 w a E S B_; clear B_
            replace S : St _ _ _ [_, .obj _ _ [_, _, _, _, _, _, _, _], _, .obj _ _ [_, _, _, _, _, _, _, _], .obj _ _ [_, _, _, _, _, _, _, _]] := S
            refine RunT.end ?_
            refine RunT.one ?_
            refine Run.store (news := [.int .i64 s.kind, .int .i64 s.node, .int .i64 s.phase, .int .i64 s.pos, .int .i64 s.start, .int .i64 s.depth, .int .i64 s.org, .slice B3 s.caps.length d4]) (cs' := [_, _, _, _, _, _, _, _]) (hp' := [_, _, _, _, _]) 1 rfl E S rfl rfl rfl rfl rfl sz34 rfl rfl rfl rfl ?_; clear S; intro w S
            refine RunT.end ?_
            refine RunT.one ?_
            refine Run.assign rfl E rfl rfl rfl ?_; clear E a; intro a E
            refine RunT.end ?_
            refine RunT.done ?_
            refine then_n ?_
            have S : St _ _ _ [_, _, _, _, _] := S.sel [4, 3, 1, 2, 0] _ rfl rfl
            exact ⟨b12, B3, d4, A14, c15, E.keeps [(2, _), (3, _), (4, _), (6, _), (7, _), (9, _), (10, _)] ⟨rfl, rfl, rfl, rfl, rfl, rfl, rfl, trivial⟩, S⟩
          · skip
            exact RunT.none
      · skip
        refine RunT.alt ?_ ?_
        · skip
          refine Run.buildSlice (cs := []) [] rfl rfl E S rfl rfl rfl Try.underlying32 (by kernel_rfl) ?_; clear E a S; intro b16 w a E S B_; clear B_
          refine RunT.end ?_
          refine RunT.alt ?_ ?_
          · skip
            refine Run.call (args := [.agg #[.int .i64 s.kind, .int .i64 s.node, .int .i64 s.phase, .int .i64 s.pos, .int .i64 s.start, .int .i64 s.depth, .int .i64 s.org, .slice A s.caps.length c]]) rfl rfl E rfl rfl Try.func44 nm44 rfl rfl (own_walk (s := s) (H1.bel S.belT) (by omega)) ?_; rintro e_ w ⟨B17, d18, rfl, S_⟩; refine ⟨_, rfl, (fun _ => S_.belT), ?_⟩; clear E a; intro a E
            replace S : St _ _ _ [_, .obj _ _ [], .obj _ _ [_, _, _, _, _, _, _, _], .obj _ _ [_, _, _, _, _, _, _, _]] := St.call (A := []) (R := [_, _, _]) S S_; clear S_
            refine RunT.end ?_
            refine RunT.alt ?_ ?_
            · skip
              replace S : St _ _ _ [_, _, _, _] := S.objRow (sz := 1) (n := 0) 1 rfl rfl (Nat.zero_le _) rfl
              refine Run.appendE (news := ints s.caps) 1 rfl rfl E S rfl rfl rfl rfl rfl Try.underlying32 I3 rfl rfl (H1.bel S.belT) (ints_one _) (by omega) (by omega) ?_; clear E a S; intro A19 c20 w a E S B_; clear B_
              replace S : St _ _ _ [_, _, .obj _ _ [_, _, _, _, _, _, _, _], .obj _ _ [_, _, _, _, _, _, _, _]] := S
              refine RunT.end ?_
              refine RunT.one ?_
              refine Run.alloc rfl rfl E S rfl rfl z34 rfl ?_; clear E a S; intro b21 w a E S B_; clear B_
              refine RunT.end ?_
              refine RunT.one ?_
              refine Run.store (news := [.int .i64 s.kind, .int .i64 s.node, .int .i64 s.phase, .int .i64 s.pos, .int .i64 s.start, .int .i64 s.depth, .int .i64 s.org, .slice B17 s.caps.length d18]) (cs' := [_, _, _, _, _, _, _, _]) (hp' := [_, _, _, _, _]) 0 rfl E S rfl rfl rfl rfl rfl sz34 rfl rfl rfl rfl ?_; clear S; intro w S
              refine RunT.end ?_
              refine RunT.one ?_
              refine Run.assign rfl E rfl rfl rfl ?_; clear E a; intro a E
              refine RunT.end ?_
              refine RunT.done ?_
              refine then_n ?_
              have S : St _ _ _ [_, _, _, _, _] := S.sel [4, 3, 0, 1, 2] _ rfl rfl
              exact ⟨b21, B17, d18, A19, c20, E.keeps [(2, _), (3, _), (4, _), (6, _), (7, _), (9, _), (10, _)] ⟨rfl, rfl, rfl, rfl, rfl, rfl, rfl, trivial⟩, S⟩
            · skip
              refine RunT.alt ?_ ?_
              · skip
                refine Run.alloc rfl rfl E S rfl rfl z34 rfl ?_; clear E a S; intro b22 w a E S B_; clear B_
                refine RunT.end ?_
                refine RunT.one ?_
                replace S : St _ _ _ [_, _, _, _, _] := S.objRow (sz := 1) (n := 0) 2 rfl rfl (Nat.zero_le _) rfl
                refine Run.appendE (news := ints s.caps) 2 rfl rfl E S rfl rfl rfl rfl rfl Try.underlying32 I3 rfl rfl (H1.bel S.belT) (ints_one _) (by omega) (by omega) ?_; clear E a S; intro A23 c24 w a E S B_; clear B_
                replace S : St _ _ _ [.obj _ _ [_, _, _, _, _, _, _, _], _, _, .obj _ _ [_, _, _, _, _, _, _, _], .obj _ _ [_, _, _, _, _, _, _, _]] := S
                refine RunT.end ?_
                refine RunT.one ?_
                refine Run.store (news := [.int .i64 s.kind, .int .i64 s.node, .int .i64 s.phase, .int .i64 s.pos, .int .i64 s.start, .int .i64 s.depth, .int .i64 s.org, .slice B17 s.caps.length d18]) (cs' := [_, _, _, _, _, _, _, _]) (hp' := [_, _, _, _, _]) 0 rfl E S rfl rfl rfl rfl rfl sz34 rfl rfl rfl rfl ?_; clear S; intro w S
                refine RunT.end ?_
                refine RunT.one ?_
                refine Run.assign rfl E rfl rfl rfl ?_; clear E a; intro a E
                refine RunT.end ?_
                refine RunT.done ?_
                refine then_n ?_
                have S : St _ _ _ [_, _, _, _, _] := S.sel [4, 3, 0, 1, 2] _ rfl rfl
                exact ⟨b22, B17, d18, A23, c24, E.keeps [(2, _), (3, _), (4, _), (6, _), (7, _), (9, _), (10, _)] ⟨rfl, rfl, rfl, rfl, rfl, rfl, rfl, trivial⟩, S⟩
              · skip
                exact RunT.none
          · skip
            refine RunT.alt ?_ ?_
            · skip
              refine Run.alloc rfl rfl E S rfl rfl z34 rfl ?_; clear E a S; intro b25 w a E S B_; clear B_
              refine RunT.end ?_
              refine RunT.one ?_
              refine Run.call (args := [.agg #[.int .i64 s.kind, .int .i64 s.node, .int .i64 s.phase, .int .i64 s.pos, .int .i64 s.start, .int .i64 s.depth, .int .i64 s.org, .slice A s.caps.length c]]) rfl rfl E rfl rfl Try.func44 nm44 rfl rfl (own_walk (s := s) (H1.bel S.belT) (by omega)) ?_; rintro e_ w ⟨B26, d27, rfl, S_⟩; refine ⟨_, rfl, (fun _ => S_.belT), ?_⟩; clear E a; intro a E
              replace S : St _ _ _ [_, .obj _ _ [_, _, _, _, _, _, _, _], .obj _ _ [], .obj _ _ [_, _, _, _, _, _, _, _], .obj _ _ [_, _, _, _, _, _, _, _]] := St.call (A := []) (R := [_, _, _, _]) S S_; clear S_
              refine RunT.end ?_
              refine RunT.one ?_
              replace S : St _ _ _ [_, _, _, _, _] := S.objRow (sz := 1) (n := 0) 2 rfl rfl (Nat.zero_le _) rfl
              refine Run.appendE (news := ints s.caps) 2 rfl rfl E S rfl rfl rfl rfl rfl Try.underlying32 I3 rfl rfl (H1.bel S.belT) (ints_one _) (by omega) (by omega) ?_; clear E a S; intro A28 c29 w a E S B_; clear B_
              replace S : St _ _ _ [_, .obj _ _ [_, _, _, _, _, _, _, _], _, .obj _ _ [_, _, _, _, _, _, _, _], .obj _ _ [_, _, _, _, _, _, _, _]] := S
              refine RunT.end ?_
              refine RunT.one ?_
              refine Run.store (news := [.int .i64 s.kind, .int .i64 s.node, .int .i64 s.phase, .int .i64 s.pos, .int .i64 s.start, .int .i64 s.depth, .int .i64 s.org, .slice B26 s.caps.length d27]) (cs' := [_, _, _, _, _, _, _, _]) (hp' := [_, _, _, _, _]) 1 rfl E S rfl rfl rfl rfl rfl sz34 rfl rfl rfl rfl ?_; clear S; intro w S
              refine RunT.end ?_
              refine RunT.one ?_
              refine Run.assign rfl E rfl rfl rfl ?_; clear E a; intro a E
              refine RunT.end ?_
              refine RunT.done ?_
              refine then_n ?_
              have S : St _ _ _ [_, _, _, _, _] := S.sel [4, 3, 1, 0, 2] _ rfl rfl
              exact ⟨b25, B26, d27, A28, c29, E.keeps [(2, _), (3, _), (4, _), (6, _), (7, _), (9, _), (10, _)] ⟨rfl, rfl, rfl, rfl, rfl, rfl, rfl, trivial⟩, S⟩
            · skip
              exact RunT.none
        · skip
          refine RunT.alt ?_ ?_
          · skip
            refine Run.alloc rfl rfl E S rfl rfl z34 rfl ?_; clear E a S; intro b30 w a E S B_; clear B_
            refine RunT.end ?_
            refine RunT.alt ?_ ?_
            · skip
              refine Run.call (args := [.agg #[.int .i64 s.kind, .int .i64 s.node, .int .i64 s.phase, .int .i64 s.pos, .int .i64 s.start, .int .i64 s.depth, .int .i64 s.org, .slice A s.caps.length c]]) rfl rfl E rfl rfl Try.func44 nm44 rfl rfl (own_walk (s := s) (H1.bel S.belT) (by omega)) ?_; rintro e_ w ⟨B31, d32, rfl, S_⟩; refine ⟨_, rfl, (fun _ => S_.belT), ?_⟩; clear E a; intro a E
              replace S : St _ _ _ [_, .obj _ _ [_, _, _, _, _, _, _, _], .obj _ _ [_, _, _, _, _, _, _, _], .obj _ _ [_, _, _, _, _, _, _, _]] := St.call (A := []) (R := [_, _, _]) S S_; clear S_
              refine RunT.end ?_
              refine RunT.one ?_
              refine Run.buildSlice (cs := []) [] rfl rfl E S rfl rfl rfl Try.underlying32 (by kernel_rfl) ?_; clear E a S; intro b33 w a E S B_; clear B_
              refine RunT.end ?_
              refine RunT.one ?_
              replace S : St _ _ _ [_, _, _, _, _] := S.objRow (sz := 1) (n := 0) 0 rfl rfl (Nat.zero_le _) rfl
              refine Run.appendE (news := ints s.caps) 0 rfl rfl E S rfl rfl rfl rfl rfl Try.underlying32 I3 rfl rfl (H1.bel S.belT) (ints_one _) (by omega) (by omega) ?_; clear E a S; intro A34 c35 w a E S B_; clear B_
              replace S : St _ _ _ [_, _, .obj _ _ [_, _, _, _, _, _, _, _], .obj _ _ [_, _, _, _, _, _, _, _], .obj _ _ [_, _, _, _, _, _, _, _]] := S
              refine RunT.end ?_
              refine RunT.one ?_
              refine Run.store (news := [.int .i64 s.kind, .int .i64 s.node, .int .i64 s.phase, .int .i64 s.pos, .int .i64 s.start, .int .i64 s.depth, .int .i64 s.org, .slice B31 s.caps.length d32]) (cs' := [_, _, _, _, _, _, _, _]) (hp' := [_, _, _, _, _]) 2 rfl E S rfl rfl rfl rfl rfl sz34 rfl rfl rfl rfl ?_; clear S; intro w S
              refine RunT.end ?_
              refine RunT.one ?_
              refine Run.assign rfl E rfl rfl rfl ?_; clear E a; intro a E
              refine RunT.end ?_
              refine RunT.done ?_
              refine then_n ?_
              have S : St _ _ _ [_, _, _, _, _] := S.sel [4, 3, 2, 1, 0] _ rfl rfl
              exact ⟨b30, B31, d32, A34, c35, E.keeps [(2, _), (3, _), (4, _), (6, _), (7, _), (9, _), (10, _)] ⟨rfl, rfl, rfl, rfl, rfl, rfl, rfl, trivial⟩, S⟩
            · skip
              refine RunT.alt ?_ ?_
              · skip
                refine Run.buildSlice (cs := []) [] rfl rfl E S rfl rfl rfl Try.underlying32 (by kernel_rfl) ?_; clear E a S; intro b36 w a E S B_; clear B_
                refine RunT.end ?_
                refine RunT.one ?_
                refine Run.call (args := [.agg #[.int .i64 s.kind, .int .i64 s.node, .int .i64 s.phase, .int .i64 s.pos, .int .i64 s.start, .int .i64 s.depth, .int .i64 s.org, .slice A s.caps.length c]]) rfl rfl E rfl rfl Try.func44 nm44 rfl rfl (own_walk (s := s) (H1.bel S.belT) (by omega)) ?_; rintro e_ w ⟨B37, d38, rfl, S_⟩; refine ⟨_, rfl, (fun _ => S_.belT), ?_⟩; clear E a; intro a E
                replace S : St _ _ _ [_, .obj _ _ [], .obj _ _ [_, _, _, _, _, _, _, _], .obj _ _ [_, _, _, _, _, _, _, _], .obj _ _ [_, _, _, _, _, _, _, _]] := St.call (A := []) (R := [_, _, _, _]) S S_; clear S_
                refine RunT.end ?_
                refine RunT.one ?_
                replace S : St _ _ _ [_, _, _, _, _] := S.objRow (sz := 1) (n := 0) 1 rfl rfl (Nat.zero_le _) rfl
                refine Run.appendE (news := ints s.caps) 1 rfl rfl E S rfl rfl rfl rfl rfl Try.underlying32 I3 rfl rfl (H1.bel S.belT) (ints_one _) (by omega) (by omega) ?_; clear E a S; intro A39 c40 w a E S B_; clear B_
                replace S : St _ _ _ [_, _, .obj _ _ [_, _, _, _, _, _, _, _], .obj _ _ [_, _, _, _, _, _, _, _], .obj _ _ [_, _, _, _, _, _, _, _]] := S
                refine RunT.end ?_
                refine RunT.one ?_
                refine Run.store (news := [.int .i64 s.kind, .int .i64 s.node, .int .i64 s.phase, .int .i64 s.pos, .int .i64 s.start, .int .i64 s.depth, .int .i64 s.org, .slice B37 s.caps.length d38]) (cs' := [_, _, _, _, _, _, _, _]) (hp' := [_, _, _, _, _]) 2 rfl E S rfl rfl rfl rfl rfl sz34 rfl rfl rfl rfl ?_; clear S; intro w S
                refine RunT.end ?_
                refine RunT.one ?_
                refine Run.assign rfl E rfl rfl rfl ?_; clear E a; intro a E
                refine RunT.end ?_
                refine RunT.done ?_
                refine then_n ?_
                have S : St _ _ _ [_, _, _, _, _] := S.sel [4, 3, 2, 0, 1] _ rfl rfl
                exact ⟨b30, B37, d38, A39, c40, E.keeps [(2, _), (3, _), (4, _), (6, _), (7, _), (9, _), (10, _)] ⟨rfl, rfl, rfl, rfl, rfl, rfl, rfl, trivial⟩, S⟩
              · skip
                exact RunT.none
          · skip
            exact RunT.none
    clear E a S
    rintro a w ⟨b9, cB, cd, wA, wc, E, S⟩
    refine wp_seq ?_
    refine wp_seq ?_
    refine region_plain (n := 17) [(0, .l), (1, .l), (2, .e), (3, .p), (4, .p), (5, .p), (6, .l), (7, .l), (8, .e), (9, .p), (10, .p), (11, .p), (12, .l), (13, .l), (14, .e), (15, .p), (16, .p)] rfl rfl ?_
    refine Run.loadN (cs := [.int .i64 s.kind, .int .i64 s.node, .int .i64 s.phase, .int .i64 s.pos, .int .i64 s.start, .int .i64 s.depth, .int .i64 s.org, .slice A s.caps.length c]) rfl rfl E S rfl rfl rfl ag34 rfl (fun _ s => objAll s 0 rfl) ?_; clear E a; intro a E
    refine Run.loadN (cs := [.int .i64 t.kind, .int .i64 t.node, .int .i64 t.phase, .int .i64 t.pos, .int .i64 t.start, .int .i64 t.depth, .int .i64 t.org, .slice B t.caps.length d]) rfl rfl E S rfl rfl rfl ag34 rfl (fun _ s => objAll s 1 rfl) ?_; clear E a; intro a E
    refine Run.call (args := [.agg #[.int .i64 s.kind, .int .i64 s.node, .int .i64 s.phase, .int .i64 s.pos, .int .i64 s.start, .int .i64 s.depth, .int .i64 s.org, .slice A s.caps.length c], .agg #[.int .i64 t.kind, .int .i64 t.node, .int .i64 t.phase, .int .i64 t.pos, .int .i64 t.start, .int .i64 t.depth, .int .i64 t.org, .slice B t.caps.length d]]) rfl rfl E rfl rfl Try.func42 nm42 rfl rfl (same_walk (s := s) (t := t) (H1.bel S.belT) (H2.bel S.belT) h1l) ?_; rintro e_ w ⟨rfl, B_⟩; refine ⟨_, rfl, fun _ => B_, ?_⟩; clear E a; replace S := S.bel B_; intro a E
    clear B_
    refine Run.move rfl E rfl rfl rfl ?_; clear E a; intro a E
    refine Run.neb (c := false) rfl E rfl rfl rfl rfl Try.underlying4 (by rw [samB_all s t hnn]; simp) ?_; clear E a; intro a E
    refine Run.move rfl E rfl rfl rfl ?_; clear E a; intro a E
    refine Run.loadN (cs := [.int .i64 s.kind, .int .i64 s.node, .int .i64 s.phase, .int .i64 s.pos, .int .i64 s.start, .int .i64 s.depth, .int .i64 s.org, .slice A s.caps.length c]) rfl rfl E S rfl rfl rfl ag34 rfl (fun _ s => objAll s 0 rfl) ?_; clear E a; intro a E
    refine Run.loadN (cs := [.int .i64 s.kind, .int .i64 s.node, .int .i64 s.phase, .int .i64 s.pos, .int .i64 s.start, .int .i64 s.depth, .int .i64 s.org, .slice cB s.caps.length cd]) rfl rfl E S rfl rfl rfl ag34 rfl (fun _ s => objAll s 2 rfl) ?_; clear E a; intro a E
    refine Run.call (args := [.agg #[.int .i64 s.kind, .int .i64 s.node, .int .i64 s.phase, .int .i64 s.pos, .int .i64 s.start, .int .i64 s.depth, .int .i64 s.org, .slice A s.caps.length c], .agg #[.int .i64 s.kind, .int .i64 s.node, .int .i64 s.phase, .int .i64 s.pos, .int .i64 s.start, .int .i64 s.depth, .int .i64 s.org, .slice cB s.caps.length cd]]) rfl rfl E rfl rfl Try.func42 nm42 rfl rfl (same_self (s := s) (H1.bel S.belT) (S.rd 3 rfl) h1l) ?_; rintro e_ w ⟨rfl, B_⟩; refine ⟨_, rfl, fun _ => B_, ?_⟩; clear E a; replace S := S.bel B_; intro a E
    clear B_
    refine Run.not rfl E rfl rfl rfl rfl ?_; clear E a; intro a E
    refine Run.pickF rfl E rfl rfl rfl rfl ?_; clear E a; intro a E
    refine Run.move rfl E rfl rfl rfl ?_; clear E a; intro a E
    refine Run.loadN (cs := [.int .i64 s.kind, .int .i64 s.node, .int .i64 s.phase, .int .i64 s.pos, .int .i64 s.start, .int .i64 s.depth, .int .i64 s.org, .slice cB s.caps.length cd]) rfl rfl E S rfl rfl rfl ag34 rfl (fun _ s => objAll s 2 rfl) ?_; clear E a; intro a E
    refine Run.loadN (cs := [.int .i64 s.kind, .int .i64 s.node, .int .i64 s.phase, .int .i64 s.pos, .int .i64 s.start, .int .i64 s.depth, .int .i64 s.org, .slice A s.caps.length c]) rfl rfl E S rfl rfl rfl ag34 rfl (fun _ s => objAll s 0 rfl) ?_; clear E a; intro a E
    refine Run.call (args := [.agg #[.int .i64 s.kind, .int .i64 s.node, .int .i64 s.phase, .int .i64 s.pos, .int .i64 s.start, .int .i64 s.depth, .int .i64 s.org, .slice cB s.caps.length cd], .agg #[.int .i64 s.kind, .int .i64 s.node, .int .i64 s.phase, .int .i64 s.pos, .int .i64 s.start, .int .i64 s.depth, .int .i64 s.org, .slice A s.caps.length c]]) rfl rfl E rfl rfl Try.func42 nm42 rfl rfl (same_self (s := s) (S.rd 3 rfl) (H1.bel S.belT) h1l) ?_; rintro e_ w ⟨rfl, B_⟩; refine ⟨_, rfl, fun _ => B_, ?_⟩; clear E a; replace S := S.bel B_; intro a E
    clear B_
    refine Run.not rfl E rfl rfl rfl rfl ?_; clear E a; intro a E
    refine Run.pickF rfl E rfl rfl rfl rfl ?_; clear E a; intro a E
    refine Run.nil ?_
    refine then_n ?_
    refine cond_F E rfl ?_
    refine wp_skip ?_
    refine then_n ?_
    refine wp_seq ?_
    refine wp_seq ?_
    refine region_plain (n := 4) [(0, .p), (1, .l), (2, .p), (3, .p)] rfl rfl ?_
    refine Run.fieldAddr rfl E rfl rfl rfl fo34_7 (rfl) ?_; clear E a; intro a E
    refine Run.load1 rfl rfl E S rfl rfl rfl one32 (fun _ s => s.objCell 2 7 rfl rfl) ?_; clear E a; intro a E
    refine Run.len rfl E rfl rfl rfl Try.underlying32 ?_; clear E a; intro a E
    refine Run.move rfl E rfl rfl rfl ?_; clear E a; intro a E
    refine Run.nil ?_
    refine then_n ?_
    refine wp_block ?_
    refine wp_loop_ghost (fun n_ a w => ∃ i : Nat, ∃ xs : List Value, s.caps.length - i = n_ ∧ Env 147 [(2, .int .i64 x), (3, .pointer (some ⟨b1, 0, none⟩)), (6, .bool false), (9, .pointer (some ⟨b9, 0, none⟩)), (10, .slice wA s.caps.length wc), (121, .int .i64 (s.caps.length : Int)), (122, .int .i64 (i : Int))] a ∧ St _ _ w [.obj b1 34 [.int .i64 s.kind, .int .i64 s.node, .int .i64 s.phase, .int .i64 s.pos, .int .i64 s.start, .int .i64 s.depth, .int .i64 s.org, .slice A s.caps.length c], .obj b2 34 [.int .i64 t.kind, .int .i64 t.node, .int .i64 t.phase, .int .i64 t.pos, .int .i64 t.start, .int .i64 t.depth, .int .i64 t.org, .slice B t.caps.length d], .obj b9 34 [.int .i64 s.kind, .int .i64 s.node, .int .i64 s.phase, .int .i64 s.pos, .int .i64 s.start, .int .i64 s.depth, .int .i64 s.org, .slice cB s.caps.length cd], .row (.slice cB s.caps.length cd) 3 1 s.caps.length xs, .row (.slice wA s.caps.length wc) 3 1 s.caps.length (ints s.caps)] ∧ (i ≤ s.caps.length)) _ ⟨0, (ints s.caps), rfl, E.keeps [(2, _), (3, _), (6, _), (9, _), (10, _), (121, _), (122, _)] ⟨rfl, rfl, rfl, rfl, rfl, rfl, rfl, trivial⟩, S, Nat.zero_le _⟩ ?_
    clear E a S
    rintro n_ a w ⟨i, xs, rfl, E, S, hi⟩
    refine wp_seq ?_
    refine region_plain (n := 1) [(0, .p)] rfl rfl ?_
    by_cases hlt : i < s.caps.length
    · skip
      have hxs := (S.rd 3 rfl).1
      obtain ⟨cB_, rfl⟩ := S.rowAddr 3 rfl (by omega)
      refine Run.lss rfl E rfl rfl rfl rfl (decide_eq_true (by omega)) ?_; clear E a; intro a E
      refine Run.nil ?_
      refine then_n ?_
      refine wp_seq ?_
      refine cond_T E rfl ?_
      refine wp_skip ?_
      refine then_n ?_
      refine wp_seq ?_
      refine wp_block ?_
      refine wp_seq ?_
      refine region_plain (n := 2) [(0, .p), (1, .p)] rfl rfl ?_
      refine Run.move rfl E rfl rfl rfl ?_; clear E a; intro a E
      refine Run.assign rfl E rfl rfl rfl ?_; clear E a; intro a E
      refine Run.nil ?_
      refine then_n ?_
      refine region_plain (n := 6) [(0, .p), (1, .l), (2, .p), (3, .p), (4, .p), (5, .l)] rfl rfl ?_
      refine Run.fieldAddr rfl E rfl rfl rfl fo34_7 (rfl) ?_; clear E a; intro a E
      refine Run.load1 rfl rfl E S rfl rfl rfl one32 (fun _ s => s.objCell 2 7 rfl rfl) ?_; clear E a; intro a E
      refine Run.move rfl E rfl rfl rfl ?_; clear E a; intro a E
      refine Run.move rfl E rfl rfl rfl ?_; clear E a; intro a E
      refine Run.indexAddr rfl E rfl rfl rfl rfl Try.underlying32 sz3 (by omega) (ix_at (m' := i) (o := i) (by omega) (Nat.mul_one _)) ?_; clear E a; intro a E
      refine Run.storeRow (hp' := [_, _, _, _, _]) 3 rfl E S rfl rfl rfl rfl (by omega) sz3 rfl rfl ?_; clear S; intro w S
      refine Run.nil ?_
      refine blk_n ?_
      refine then_n ?_
      refine region_plain (n := 2) [(0, .p), (1, .p)] rfl rfl ?_
      refine Run.add rfl E rfl rfl rfl rfl (i64_ok (by omega)) ?_; clear E a; intro a E
      refine Run.move rfl E rfl rfl rfl ?_; clear E a; intro a E
      refine Run.nil ?_
      refine then_n ?_
      replace E := E.setv 122 rfl (show Value.int .i64 ((i : Int) + 1) = .int .i64 ((i + 1 : Nat) : Int) from rfl)
      exact ⟨_, (by omega), (i + 1), xs.set i (.int .i64 x), rfl, E.keeps [(2, _), (3, _), (6, _), (9, _), (10, _), (121, _), (122, _)] ⟨rfl, rfl, rfl, rfl, rfl, rfl, rfl, trivial⟩, S, (by omega)⟩
    · skip
      refine Run.lss rfl E rfl rfl rfl rfl (decide_eq_false (by omega)) ?_; clear E a; intro a E
      refine Run.nil ?_
      refine then_n ?_
      refine wp_seq ?_
      refine cond_F E rfl ?_
      refine wp_exit ?_
      refine then_x ?_
      refine then_x ?_
      refine blk_x ?_
      refine then_n ?_
      refine wp_seq ?_
      refine wp_seq ?_
      refine region_plain (n := 3) [(0, .p), (1, .p), (2, .p)] rfl rfl ?_
      refine Run.move rfl E rfl rfl rfl ?_; clear E a; intro a E
      refine Run.len rfl E rfl rfl rfl Try.underlying32 ?_; clear E a; intro a E
      refine Run.move rfl E rfl rfl rfl ?_; clear E a; intro a E
      refine Run.nil ?_
      refine then_n ?_
      refine wp_block ?_
      refine wp_loop_ghost (fun n_ a w => ∃ i : Nat, s.caps.length - i = n_ ∧ Env 147 [(3, .pointer (some ⟨b1, 0, none⟩)), (10, .slice wA s.caps.length wc), (132, .int .i64 (s.caps.length : Int)), (133, .int .i64 (i : Int))] a ∧ St _ _ w [.obj b1 34 [.int .i64 s.kind, .int .i64 s.node, .int .i64 s.phase, .int .i64 s.pos, .int .i64 s.start, .int .i64 s.depth, .int .i64 s.org, .slice A s.caps.length c], .obj b2 34 [.int .i64 t.kind, .int .i64 t.node, .int .i64 t.phase, .int .i64 t.pos, .int .i64 t.start, .int .i64 t.depth, .int .i64 t.org, .slice B t.caps.length d], .obj b9 34 [.int .i64 s.kind, .int .i64 s.node, .int .i64 s.phase, .int .i64 s.pos, .int .i64 s.start, .int .i64 s.depth, .int .i64 s.org, .slice cB s.caps.length cd], .row (.slice cB s.caps.length cd) 3 1 s.caps.length xs, .row (.slice wA s.caps.length wc) 3 1 s.caps.length (ints s.caps)] ∧ (i ≤ s.caps.length)) _ ⟨0, rfl, E.keeps [(3, _), (10, _), (132, _), (133, _)] ⟨rfl, rfl, rfl, rfl, trivial⟩, S, Nat.zero_le _⟩ ?_
      clear E a S
      rintro n_ a w ⟨i, rfl, E, S, hi⟩
      refine wp_seq ?_
      refine region_plain (n := 1) [(0, .p)] rfl rfl ?_
      by_cases hlt : i < s.caps.length
      · skip
        obtain ⟨bA, oA, rfl, hA⟩ := H1.place (by omega)
        obtain ⟨wb, rfl⟩ := S.rowAddr 4 rfl (by omega)
        refine Run.lss rfl E rfl rfl rfl rfl (decide_eq_true (by omega)) ?_; clear E a; intro a E
        refine Run.nil ?_
        refine then_n ?_
        refine wp_seq ?_
        refine cond_T E rfl ?_
        refine wp_skip ?_
        refine then_n ?_
        refine wp_seq ?_
        refine wp_block ?_
        refine wp_seq ?_
        refine region_plain (n := 2) [(0, .p), (1, .p)] rfl rfl ?_
        refine Run.move rfl E rfl rfl rfl ?_; clear E a; intro a E
        refine Run.assign rfl E rfl rfl rfl ?_; clear E a; intro a E
        refine Run.nil ?_
        refine then_n ?_
        refine wp_seq ?_
        refine region_drawS (n := 10) [(0, .p), (2, .p), (5, .p), (6, .p), (7, .p), (1, .t), (3, .p), (4, .t), (8, .t), (9, .p)] [0, 1, 0, 7, 15, 0, 0, 96, 224, 511] S mixed rfl rfl (by kernel_rfl) (fun _ _ _ _ _ h => h) ?_; clear S; intro w S B_; clear B_
        refine Run.fieldAddr rfl E rfl rfl rfl fo34_7 (rfl) ?_; clear E a; intro a E
        refine Run.move rfl E rfl rfl rfl ?_; clear E a; intro a E
        refine Run.move rfl E rfl rfl rfl ?_; clear E a; intro a E
        refine Run.move rfl E rfl rfl rfl ?_; clear E a; intro a E
        refine Run.indexAddr rfl E rfl rfl rfl rfl Try.underlying32 sz3 (by omega) (ix_at (m' := i) (o := i) (by omega) (Nat.mul_one _)) ?_; clear E a; intro a E
        refine Run.load1 rfl rfl E S rfl rfl rfl one32 (fun _ s => s.objCell 0 7 rfl rfl) ?_; clear E a; intro a E
        refine Run.indexAddr rfl E rfl rfl rfl rfl Try.underlying32 sz3 (by omega) (ix_at1 (m' := i) (by omega)) ?_; clear E a; intro a E
        refine Run.load1 rfl rfl E S rfl rfl rfl one3 (fun _ s_ => rdAt1 hA s_ (ints_get' ((List.getElem?_eq_getElem (by omega) : s.caps[i]? = some (s.caps[i]'(by omega)))))) ?_; clear E a; intro a E
        refine Run.load1 rfl rfl E S rfl rfl rfl one3 (fun _ s_ => s_.rowCell 4 rfl (ints_get' (List.getElem?_eq_getElem (by omega) : s.caps[i]? = some (s.caps[i]'(by omega))))) ?_; clear E a; intro a E
        refine Run.nei rfl E rfl rfl rfl rfl (decide_eq_false (fun h => h rfl)) ?_; clear E a; intro a E
        refine Run.nil ?_
        refine then_n ?_
        refine cond_F E rfl ?_
        refine wp_skip ?_
        refine blk_n ?_
        refine then_n ?_
        refine region_plain (n := 2) [(0, .p), (1, .p)] rfl rfl ?_
        refine Run.add rfl E rfl rfl rfl rfl (i64_ok (by omega)) ?_; clear E a; intro a E
        refine Run.move rfl E rfl rfl rfl ?_; clear E a; intro a E
        refine Run.nil ?_
        refine then_n ?_
        replace E := E.setv 133 rfl (show Value.int .i64 ((i : Int) + 1) = .int .i64 ((i + 1 : Nat) : Int) from rfl)
        exact ⟨_, (by omega), (i + 1), rfl, E.keeps [(3, _), (10, _), (132, _), (133, _)] ⟨rfl, rfl, rfl, rfl, trivial⟩, S, (by omega)⟩
      · skip
        refine Run.lss rfl E rfl rfl rfl rfl (decide_eq_false (by omega)) ?_; clear E a; intro a E
        refine Run.nil ?_
        refine then_n ?_
        refine wp_seq ?_
        refine cond_F E rfl ?_
        refine wp_exit ?_
        refine then_x ?_
        refine then_x ?_
        refine blk_x ?_
        refine then_n ?_
        refine wp_seq ?_
        refine region_plain (n := 1) [(0, .p)] rfl rfl ?_
        refine Run.assign rfl E rfl rfl rfl ?_; clear E a; intro a E
        refine Run.nil ?_
        refine then_n ?_
        refine wp_ret ?_
        exact ret1 E Try.results6 rfl ⟨rfl, S.belT⟩

end
end Go.Proofs.Ytlcglefbhlhcpaa.K
