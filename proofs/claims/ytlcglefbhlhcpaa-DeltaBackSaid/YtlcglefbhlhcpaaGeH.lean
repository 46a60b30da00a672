/- DeltaBack walked. -/
import Derived.Test.YtlcglefbhlhcpaaKg
import Derived.Test.YtlcglefbhlhcpaaGeW
namespace Go.Proofs.Ytlcglefbhlhcpaa.K
open Go.RowKit
set_option linter.unusedVariables false
set_option maxRecDepth 100000
set_option maxHeartbeats 400000

section
variable {w0 : World} {A B C G : Option Addr} {c d e g : Nat} {b hd tl : List Nat} {at_ : Int} {s t : Sta}

theorem dback_nobase (H2 : Rd w0 C s.caps.length 1 (ints s.caps)) (hs : s.caps.length ≤ 140737488355328) (H3 : Rd w0 B t.caps.length 1 (ints t.caps)) (ht : t.caps.length ≤ 140737488355328) (H1 : Rd w0 A hd.length 1 (u8s hd)) (hb8 : ∀ x ∈ hd, x < 256) (hl : hd.length ≤ 140737488355328) (H4 : Rd w0 G tl.length 1 (u8s tl)) (hb9 : ∀ x ∈ tl, x < 256) (hl4 : tl.length ≤ 140737488355328) (hB : ¬ s.base) : Calls Try.prog 14 [.agg #[.int .i64 s.kind, .int .i64 s.node, .int .i64 s.phase, .int .i64 s.pos, .int .i64 s.start, .int .i64 s.depth, .int .i64 s.org, .slice C s.caps.length d], .agg #[.int .i64 t.kind, .int .i64 t.node, .int .i64 t.phase, .int .i64 t.pos, .int .i64 t.start, .int .i64 t.depth, .int .i64 t.org, .slice B t.caps.length e], .slice A hd.length c, .slice G tl.length g].toArray w0 (fun r w' => r = .returned (.bool true) ∧ Bel w0 w') := by
  have S := St.nil [] w0
  refine fn_start Try.func14 rfl 70 rfl rfl [(0, _), (1, _), (2, _), (3, _)] ⟨rfl, rfl, rfl, rfl, trivial⟩ ?_; intro a E
  refine wp_seq ?_
  refine region_plain (n := 3) [(0, .e), (1, .e), (2, .p)] rfl rfl ?_
  refine Run.box (cs := [.int .i64 s.kind, .int .i64 s.node, .int .i64 s.phase, .int .i64 s.pos, .int .i64 s.start, .int .i64 s.depth, .int .i64 s.org, .slice C s.caps.length d]) rfl rfl E S rfl rfl rfl rfl ?_; clear E a S; intro b1 w a E S B_; clear B_
  refine Run.box (cs := [.int .i64 t.kind, .int .i64 t.node, .int .i64 t.phase, .int .i64 t.pos, .int .i64 t.start, .int .i64 t.depth, .int .i64 t.org, .slice B t.caps.length e]) rfl rfl E S rfl rfl rfl rfl ?_; clear E a S; intro b2 w a E S B_; clear B_
  refine Run.assign rfl E rfl rfl rfl ?_; clear E a; intro a E
  refine Run.nil ?_
  refine then_n ?_
  refine wp_seq ?_
  refine wp_seq ?_
  refine region_plain (n := 2) [(0, .e), (1, .p)] rfl rfl ?_
  refine Run.call (args := []) rfl rfl E rfl rfl Try.func61 nm61 rfl rfl (anchor18) ?_; rintro e_ w ⟨rfl, B_⟩; refine ⟨_, rfl, fun _ => B_, ?_⟩; clear E a; replace S := S.bel B_; intro a E
  clear B_
  refine Run.not rfl E rfl rfl rfl rfl ?_; clear E a; intro a E
  refine Run.nil ?_
  refine then_n ?_
  refine cond_F E rfl ?_
  refine wp_skip ?_
  refine then_n ?_
  refine wp_seq ?_
  refine wp_seq ?_
  refine region_plain (n := 8) [(0, .p), (1, .p), (2, .p), (3, .p), (4, .p), (5, .p), (6, .p), (7, .p)] rfl rfl ?_
  refine Run.move rfl E rfl rfl rfl ?_; clear E a; intro a E
  refine Run.len rfl E rfl rfl rfl Try.underlying22 ?_; clear E a; intro a E
  by_cases hh : ((500 : Int) < (hd.length : Int))
  · skip
    refine Run.gtr rfl E rfl rfl rfl rfl (decide_eq_true (by omega)) ?_; clear E a; intro a E
    refine Run.move rfl E rfl rfl rfl ?_; clear E a; intro a E
    refine Run.off rfl E rfl rfl ?_; clear E a; intro a E
    refine Run.off rfl E rfl rfl ?_; clear E a; intro a E
    refine Run.off rfl E rfl rfl ?_; clear E a; intro a E
    refine Run.pickT rfl E rfl rfl rfl rfl ?_; clear E a; intro a E
    refine Run.nil ?_
    refine then_n ?_
    refine cond_T E rfl ?_
    refine wp_seq ?_
    refine region_plain (n := 1) [(0, .p)] rfl rfl ?_
    refine Run.assign rfl E rfl rfl rfl ?_; clear E a; intro a E
    refine Run.nil ?_
    refine then_n ?_
    refine wp_ret ?_
    refine then_r ?_
    exact ret1 E Try.results14 rfl ⟨rfl, S.belT⟩
  · skip
    refine Run.gtr rfl E rfl rfl rfl rfl (decide_eq_false (by omega)) ?_; clear E a; intro a E
    refine Run.move rfl E rfl rfl rfl ?_; clear E a; intro a E
    refine Run.move rfl E rfl rfl rfl ?_; clear E a; intro a E
    refine Run.len rfl E rfl rfl rfl Try.underlying22 ?_; clear E a; intro a E
    by_cases ht5 : ((500 : Int) < (tl.length : Int))
    · skip
      refine Run.gtr rfl E rfl rfl rfl rfl (decide_eq_true (by omega)) ?_; clear E a; intro a E
      refine Run.pickF rfl E rfl rfl rfl rfl ?_; clear E a; intro a E
      refine Run.nil ?_
      refine then_n ?_
      refine cond_T E rfl ?_
      refine wp_seq ?_
      refine region_plain (n := 1) [(0, .p)] rfl rfl ?_
      refine Run.assign rfl E rfl rfl rfl ?_; clear E a; intro a E
      refine Run.nil ?_
      refine then_n ?_
      refine wp_ret ?_
      refine then_r ?_
      exact ret1 E Try.results14 rfl ⟨rfl, S.belT⟩
    · skip
      refine Run.gtr rfl E rfl rfl rfl rfl (decide_eq_false (by omega)) ?_; clear E a; intro a E
      refine Run.pickF rfl E rfl rfl rfl rfl ?_; clear E a; intro a E
      refine Run.nil ?_
      refine then_n ?_
      refine cond_F E rfl ?_
      refine wp_skip ?_
      refine then_n ?_
      refine wp_seq ?_
      refine region_plain (n := 8) [(0, .l), (1, .l), (2, .e), (3, .p), (4, .p), (5, .p), (6, .p), (7, .p)] rfl rfl ?_
      refine Run.loadN (cs := [.int .i64 s.kind, .int .i64 s.node, .int .i64 s.phase, .int .i64 s.pos, .int .i64 s.start, .int .i64 s.depth, .int .i64 s.org, .slice C s.caps.length d]) rfl rfl E S rfl rfl rfl ag34 rfl (fun _ s => objAll s 1 rfl) ?_; clear E a; intro a E
      refine Run.loadN (cs := [.int .i64 t.kind, .int .i64 t.node, .int .i64 t.phase, .int .i64 t.pos, .int .i64 t.start, .int .i64 t.depth, .int .i64 t.org, .slice B t.caps.length e]) rfl rfl E S rfl rfl rfl ag34 rfl (fun _ s => objAll s 0 rfl) ?_; clear E a; intro a E
      refine Run.call (args := [.agg #[.int .i64 s.kind, .int .i64 s.node, .int .i64 s.phase, .int .i64 s.pos, .int .i64 s.start, .int .i64 s.depth, .int .i64 s.org, .slice C s.caps.length d], .agg #[.int .i64 t.kind, .int .i64 t.node, .int .i64 t.phase, .int .i64 t.pos, .int .i64 t.start, .int .i64 t.depth, .int .i64 t.org, .slice B t.caps.length e]]) rfl rfl E rfl rfl Try.func62 nm62 rfl rfl (dbytes_nobase (s := s) (t := t) (H2.bel S.belT) (H3.bel S.belT) hs ht hB) ?_; rintro e_ w ⟨rfl, B_⟩; refine ⟨_, rfl, fun _ => B_, ?_⟩; clear E a; replace S := S.bel B_; intro a E
      clear B_
      refine Run.move rfl E rfl rfl rfl ?_; clear E a; intro a E
      refine Run.extract rfl E rfl rfl rfl rfl ?_; clear E a; intro a E
      refine Run.extract rfl E rfl rfl rfl rfl ?_; clear E a; intro a E
      refine Run.assign rfl E rfl rfl rfl ?_; clear E a; intro a E
      refine Run.assign rfl E rfl rfl rfl ?_; clear E a; intro a E
      refine Run.nil ?_
      refine then_n ?_
      refine wp_seq ?_
      refine wp_seq ?_
      refine region_plain (n := 2) [(0, .p), (1, .p)] rfl rfl ?_
      refine Run.move rfl E rfl rfl rfl ?_; clear E a; intro a E
      refine Run.nei rfl E rfl rfl rfl rfl (b := true) (by decide) ?_; clear E a; intro a E
      refine Run.nil ?_
      refine then_n ?_
      refine cond_T E rfl ?_
      refine wp_seq ?_
      refine region_plain (n := 3) [(0, .p), (1, .p), (2, .p)] rfl rfl ?_
      refine Run.move rfl E rfl rfl rfl ?_; clear E a; intro a E
      refine Run.eqi rfl E rfl rfl rfl rfl (b := true) (by decide) ?_; clear E a; intro a E
      refine Run.assign rfl E rfl rfl rfl ?_; clear E a; intro a E
      refine Run.nil ?_
      refine then_n ?_
      refine wp_ret ?_
      refine then_r ?_
      exact ret1 E Try.results14 rfl ⟨rfl, S.belT⟩

theorem dback_nor (H2 : Rd w0 C s.caps.length 1 (ints s.caps)) (hs : s.caps.length ≤ 140737488355328) (H3 : Rd w0 B t.caps.length 1 (ints t.caps)) (ht : t.caps.length ≤ 140737488355328) (H1 : Rd w0 A hd.length 1 (u8s hd)) (hb8 : ∀ x ∈ hd, x < 256) (hl : hd.length ≤ 140737488355328) (H4 : Rd w0 G tl.length 1 (u8s tl)) (hb9 : ∀ x ∈ tl, x < 256) (hl4 : tl.length ≤ 140737488355328) (hB : s.base) (hR : ¬ t.Right s.groups) : Calls Try.prog 14 [.agg #[.int .i64 s.kind, .int .i64 s.node, .int .i64 s.phase, .int .i64 s.pos, .int .i64 s.start, .int .i64 s.depth, .int .i64 s.org, .slice C s.caps.length d], .agg #[.int .i64 t.kind, .int .i64 t.node, .int .i64 t.phase, .int .i64 t.pos, .int .i64 t.start, .int .i64 t.depth, .int .i64 t.org, .slice B t.caps.length e], .slice A hd.length c, .slice G tl.length g].toArray w0 (fun r w' => r = .returned (.bool true) ∧ Bel w0 w') := by
  have S := St.nil [] w0
  refine fn_start Try.func14 rfl 70 rfl rfl [(0, _), (1, _), (2, _), (3, _)] ⟨rfl, rfl, rfl, rfl, trivial⟩ ?_; intro a E
  refine wp_seq ?_
  refine region_plain (n := 3) [(0, .e), (1, .e), (2, .p)] rfl rfl ?_
  refine Run.box (cs := [.int .i64 s.kind, .int .i64 s.node, .int .i64 s.phase, .int .i64 s.pos, .int .i64 s.start, .int .i64 s.depth, .int .i64 s.org, .slice C s.caps.length d]) rfl rfl E S rfl rfl rfl rfl ?_; clear E a S; intro b1 w a E S B_; clear B_
  refine Run.box (cs := [.int .i64 t.kind, .int .i64 t.node, .int .i64 t.phase, .int .i64 t.pos, .int .i64 t.start, .int .i64 t.depth, .int .i64 t.org, .slice B t.caps.length e]) rfl rfl E S rfl rfl rfl rfl ?_; clear E a S; intro b2 w a E S B_; clear B_
  refine Run.assign rfl E rfl rfl rfl ?_; clear E a; intro a E
  refine Run.nil ?_
  refine then_n ?_
  refine wp_seq ?_
  refine wp_seq ?_
  refine region_plain (n := 2) [(0, .e), (1, .p)] rfl rfl ?_
  refine Run.call (args := []) rfl rfl E rfl rfl Try.func61 nm61 rfl rfl (anchor18) ?_; rintro e_ w ⟨rfl, B_⟩; refine ⟨_, rfl, fun _ => B_, ?_⟩; clear E a; replace S := S.bel B_; intro a E
  clear B_
  refine Run.not rfl E rfl rfl rfl rfl ?_; clear E a; intro a E
  refine Run.nil ?_
  refine then_n ?_
  refine cond_F E rfl ?_
  refine wp_skip ?_
  refine then_n ?_
  refine wp_seq ?_
  refine wp_seq ?_
  refine region_plain (n := 8) [(0, .p), (1, .p), (2, .p), (3, .p), (4, .p), (5, .p), (6, .p), (7, .p)] rfl rfl ?_
  refine Run.move rfl E rfl rfl rfl ?_; clear E a; intro a E
  refine Run.len rfl E rfl rfl rfl Try.underlying22 ?_; clear E a; intro a E
  by_cases hh : ((500 : Int) < (hd.length : Int))
  · skip
    refine Run.gtr rfl E rfl rfl rfl rfl (decide_eq_true (by omega)) ?_; clear E a; intro a E
    refine Run.move rfl E rfl rfl rfl ?_; clear E a; intro a E
    refine Run.off rfl E rfl rfl ?_; clear E a; intro a E
    refine Run.off rfl E rfl rfl ?_; clear E a; intro a E
    refine Run.off rfl E rfl rfl ?_; clear E a; intro a E
    refine Run.pickT rfl E rfl rfl rfl rfl ?_; clear E a; intro a E
    refine Run.nil ?_
    refine then_n ?_
    refine cond_T E rfl ?_
    refine wp_seq ?_
    refine region_plain (n := 1) [(0, .p)] rfl rfl ?_
    refine Run.assign rfl E rfl rfl rfl ?_; clear E a; intro a E
    refine Run.nil ?_
    refine then_n ?_
    refine wp_ret ?_
    refine then_r ?_
    exact ret1 E Try.results14 rfl ⟨rfl, S.belT⟩
  · skip
    refine Run.gtr rfl E rfl rfl rfl rfl (decide_eq_false (by omega)) ?_; clear E a; intro a E
    refine Run.move rfl E rfl rfl rfl ?_; clear E a; intro a E
    refine Run.move rfl E rfl rfl rfl ?_; clear E a; intro a E
    refine Run.len rfl E rfl rfl rfl Try.underlying22 ?_; clear E a; intro a E
    by_cases ht5 : ((500 : Int) < (tl.length : Int))
    · skip
      refine Run.gtr rfl E rfl rfl rfl rfl (decide_eq_true (by omega)) ?_; clear E a; intro a E
      refine Run.pickF rfl E rfl rfl rfl rfl ?_; clear E a; intro a E
      refine Run.nil ?_
      refine then_n ?_
      refine cond_T E rfl ?_
      refine wp_seq ?_
      refine region_plain (n := 1) [(0, .p)] rfl rfl ?_
      refine Run.assign rfl E rfl rfl rfl ?_; clear E a; intro a E
      refine Run.nil ?_
      refine then_n ?_
      refine wp_ret ?_
      refine then_r ?_
      exact ret1 E Try.results14 rfl ⟨rfl, S.belT⟩
    · skip
      refine Run.gtr rfl E rfl rfl rfl rfl (decide_eq_false (by omega)) ?_; clear E a; intro a E
      refine Run.pickF rfl E rfl rfl rfl rfl ?_; clear E a; intro a E
      refine Run.nil ?_
      refine then_n ?_
      refine cond_F E rfl ?_
      refine wp_skip ?_
      refine then_n ?_
      refine wp_seq ?_
      refine region_plain (n := 8) [(0, .l), (1, .l), (2, .e), (3, .p), (4, .p), (5, .p), (6, .p), (7, .p)] rfl rfl ?_
      refine Run.loadN (cs := [.int .i64 s.kind, .int .i64 s.node, .int .i64 s.phase, .int .i64 s.pos, .int .i64 s.start, .int .i64 s.depth, .int .i64 s.org, .slice C s.caps.length d]) rfl rfl E S rfl rfl rfl ag34 rfl (fun _ s => objAll s 1 rfl) ?_; clear E a; intro a E
      refine Run.loadN (cs := [.int .i64 t.kind, .int .i64 t.node, .int .i64 t.phase, .int .i64 t.pos, .int .i64 t.start, .int .i64 t.depth, .int .i64 t.org, .slice B t.caps.length e]) rfl rfl E S rfl rfl rfl ag34 rfl (fun _ s => objAll s 0 rfl) ?_; clear E a; intro a E
      refine Run.call (args := [.agg #[.int .i64 s.kind, .int .i64 s.node, .int .i64 s.phase, .int .i64 s.pos, .int .i64 s.start, .int .i64 s.depth, .int .i64 s.org, .slice C s.caps.length d], .agg #[.int .i64 t.kind, .int .i64 t.node, .int .i64 t.phase, .int .i64 t.pos, .int .i64 t.start, .int .i64 t.depth, .int .i64 t.org, .slice B t.caps.length e]]) rfl rfl E rfl rfl Try.func62 nm62 rfl rfl (dbytes_noright (s := s) (t := t) (H2.bel S.belT) (H3.bel S.belT) hs ht hB hR) ?_; rintro e_ w ⟨rfl, B_⟩; refine ⟨_, rfl, fun _ => B_, ?_⟩; clear E a; replace S := S.bel B_; intro a E
      clear B_
      refine Run.move rfl E rfl rfl rfl ?_; clear E a; intro a E
      refine Run.extract rfl E rfl rfl rfl rfl ?_; clear E a; intro a E
      refine Run.extract rfl E rfl rfl rfl rfl ?_; clear E a; intro a E
      refine Run.assign rfl E rfl rfl rfl ?_; clear E a; intro a E
      refine Run.assign rfl E rfl rfl rfl ?_; clear E a; intro a E
      refine Run.nil ?_
      refine then_n ?_
      refine wp_seq ?_
      refine wp_seq ?_
      refine region_plain (n := 2) [(0, .p), (1, .p)] rfl rfl ?_
      refine Run.move rfl E rfl rfl rfl ?_; clear E a; intro a E
      refine Run.nei rfl E rfl rfl rfl rfl (b := true) (by decide) ?_; clear E a; intro a E
      refine Run.nil ?_
      refine then_n ?_
      refine cond_T E rfl ?_
      refine wp_seq ?_
      refine region_plain (n := 3) [(0, .p), (1, .p), (2, .p)] rfl rfl ?_
      refine Run.move rfl E rfl rfl rfl ?_; clear E a; intro a E
      refine Run.eqi rfl E rfl rfl rfl rfl (b := true) (by decide) ?_; clear E a; intro a E
      refine Run.assign rfl E rfl rfl rfl ?_; clear E a; intro a E
      refine Run.nil ?_
      refine then_n ?_
      refine wp_ret ?_
      refine then_r ?_
      exact ret1 E Try.results14 rfl ⟨rfl, S.belT⟩

set_option maxHeartbeats 4000000 in
theorem dback_ok (H2 : Rd w0 C s.caps.length 1 (ints s.caps)) (hs : s.caps.length ≤ 140737488355328) (H3 : Rd w0 B t.caps.length 1 (ints t.caps)) (ht : t.caps.length ≤ 140737488355328) (H1 : Rd w0 A hd.length 1 (u8s hd)) (hb8 : ∀ x ∈ hd, x < 256) (hl : hd.length ≤ 140737488355328) (H4 : Rd w0 G tl.length 1 (u8s tl)) (hb9 : ∀ x ∈ tl, x < 256) (hl4 : tl.length ≤ 140737488355328) (hB : s.base) (hR : t.Right s.groups) : Calls Try.prog 14 [.agg #[.int .i64 s.kind, .int .i64 s.node, .int .i64 s.phase, .int .i64 s.pos, .int .i64 s.start, .int .i64 s.depth, .int .i64 s.org, .slice C s.caps.length d], .agg #[.int .i64 t.kind, .int .i64 t.node, .int .i64 t.phase, .int .i64 t.pos, .int .i64 t.start, .int .i64 t.depth, .int .i64 t.org, .slice B t.caps.length e], .slice A hd.length c, .slice G tl.length g].toArray w0 (fun r w' => r = .returned (.bool true) ∧ Bel w0 w') := by
  have S := St.nil [] w0
  have hs200 := base_len hB
  obtain ⟨hlen, ht200, hk1, hk2⟩ := right_len hB hR
  have hrl := rec18_len s t hB hR
  have hbB : ∀ x ∈ hd ++ rec18 s t ++ tl, x < 256 := byte_app (byte_app hb8 (rec18_byte s t)) hb9
  have hrd := rdF_fwd (b := hd ++ rec18 s t ++ tl) (k := hd.length) hB (by simp only [List.length_append]; omega) hR (Sat.mid hd (rec18 s t) tl)
  have hat : ((hd.length : Nat) : Int) ≤ (((hd ++ rec18 s t ++ tl).length : Nat) : Int) := by simp only [List.length_append]; omega
  refine fn_start Try.func14 rfl 70 rfl rfl [(0, _), (1, _), (2, _), (3, _)] ⟨rfl, rfl, rfl, rfl, trivial⟩ ?_; intro a E
  refine wp_seq ?_
  refine region_plain (n := 3) [(0, .e), (1, .e), (2, .p)] rfl rfl ?_
  refine Run.box (cs := [.int .i64 s.kind, .int .i64 s.node, .int .i64 s.phase, .int .i64 s.pos, .int .i64 s.start, .int .i64 s.depth, .int .i64 s.org, .slice C s.caps.length d]) rfl rfl E S rfl rfl rfl rfl ?_; clear E a S; intro b1 w a E S B_; clear B_
  refine Run.box (cs := [.int .i64 t.kind, .int .i64 t.node, .int .i64 t.phase, .int .i64 t.pos, .int .i64 t.start, .int .i64 t.depth, .int .i64 t.org, .slice B t.caps.length e]) rfl rfl E S rfl rfl rfl rfl ?_; clear E a S; intro b2 w a E S B_; clear B_
  refine Run.assign rfl E rfl rfl rfl ?_; clear E a; intro a E
  refine Run.nil ?_
  refine then_n ?_
  refine wp_seq ?_
  refine wp_seq ?_
  refine region_plain (n := 2) [(0, .e), (1, .p)] rfl rfl ?_
  refine Run.call (args := []) rfl rfl E rfl rfl Try.func61 nm61 rfl rfl (anchor18) ?_; rintro e_ w ⟨rfl, B_⟩; refine ⟨_, rfl, fun _ => B_, ?_⟩; clear E a; replace S := S.bel B_; intro a E
  clear B_
  refine Run.not rfl E rfl rfl rfl rfl ?_; clear E a; intro a E
  refine Run.nil ?_
  refine then_n ?_
  refine cond_F E rfl ?_
  refine wp_skip ?_
  refine then_n ?_
  refine wp_seq ?_
  refine wp_seq ?_
  refine region_plain (n := 8) [(0, .p), (1, .p), (2, .p), (3, .p), (4, .p), (5, .p), (6, .p), (7, .p)] rfl rfl ?_
  refine Run.move rfl E rfl rfl rfl ?_; clear E a; intro a E
  refine Run.len rfl E rfl rfl rfl Try.underlying22 ?_; clear E a; intro a E
  by_cases hh : ((500 : Int) < (hd.length : Int))
  · skip
    refine Run.gtr rfl E rfl rfl rfl rfl (decide_eq_true (by omega)) ?_; clear E a; intro a E
    refine Run.move rfl E rfl rfl rfl ?_; clear E a; intro a E
    refine Run.off rfl E rfl rfl ?_; clear E a; intro a E
    refine Run.off rfl E rfl rfl ?_; clear E a; intro a E
    refine Run.off rfl E rfl rfl ?_; clear E a; intro a E
    refine Run.pickT rfl E rfl rfl rfl rfl ?_; clear E a; intro a E
    refine Run.nil ?_
    refine then_n ?_
    refine cond_T E rfl ?_
    refine wp_seq ?_
    refine region_plain (n := 1) [(0, .p)] rfl rfl ?_
    refine Run.assign rfl E rfl rfl rfl ?_; clear E a; intro a E
    refine Run.nil ?_
    refine then_n ?_
    refine wp_ret ?_
    refine then_r ?_
    exact ret1 E Try.results14 rfl ⟨rfl, S.belT⟩
  · skip
    refine Run.gtr rfl E rfl rfl rfl rfl (decide_eq_false (by omega)) ?_; clear E a; intro a E
    refine Run.move rfl E rfl rfl rfl ?_; clear E a; intro a E
    refine Run.move rfl E rfl rfl rfl ?_; clear E a; intro a E
    refine Run.len rfl E rfl rfl rfl Try.underlying22 ?_; clear E a; intro a E
    by_cases ht5 : ((500 : Int) < (tl.length : Int))
    · skip
      refine Run.gtr rfl E rfl rfl rfl rfl (decide_eq_true (by omega)) ?_; clear E a; intro a E
      refine Run.pickF rfl E rfl rfl rfl rfl ?_; clear E a; intro a E
      refine Run.nil ?_
      refine then_n ?_
      refine cond_T E rfl ?_
      refine wp_seq ?_
      refine region_plain (n := 1) [(0, .p)] rfl rfl ?_
      refine Run.assign rfl E rfl rfl rfl ?_; clear E a; intro a E
      refine Run.nil ?_
      refine then_n ?_
      refine wp_ret ?_
      refine then_r ?_
      exact ret1 E Try.results14 rfl ⟨rfl, S.belT⟩
    · skip
      refine Run.gtr rfl E rfl rfl rfl rfl (decide_eq_false (by omega)) ?_; clear E a; intro a E
      refine Run.pickF rfl E rfl rfl rfl rfl ?_; clear E a; intro a E
      refine Run.nil ?_
      refine then_n ?_
      refine cond_F E rfl ?_
      refine wp_skip ?_
      refine then_n ?_
      refine wp_seq ?_
      refine region_plain (n := 8) [(0, .l), (1, .l), (2, .e), (3, .p), (4, .p), (5, .p), (6, .p), (7, .p)] rfl rfl ?_
      refine Run.loadN (cs := [.int .i64 s.kind, .int .i64 s.node, .int .i64 s.phase, .int .i64 s.pos, .int .i64 s.start, .int .i64 s.depth, .int .i64 s.org, .slice C s.caps.length d]) rfl rfl E S rfl rfl rfl ag34 rfl (fun _ s => objAll s 1 rfl) ?_; clear E a; intro a E
      refine Run.loadN (cs := [.int .i64 t.kind, .int .i64 t.node, .int .i64 t.phase, .int .i64 t.pos, .int .i64 t.start, .int .i64 t.depth, .int .i64 t.org, .slice B t.caps.length e]) rfl rfl E S rfl rfl rfl ag34 rfl (fun _ s => objAll s 0 rfl) ?_; clear E a; intro a E
      refine Run.call (args := [.agg #[.int .i64 s.kind, .int .i64 s.node, .int .i64 s.phase, .int .i64 s.pos, .int .i64 s.start, .int .i64 s.depth, .int .i64 s.org, .slice C s.caps.length d], .agg #[.int .i64 t.kind, .int .i64 t.node, .int .i64 t.phase, .int .i64 t.pos, .int .i64 t.start, .int .i64 t.depth, .int .i64 t.org, .slice B t.caps.length e]]) rfl rfl E rfl rfl Try.func62 nm62 rfl rfl (dbytes_walk (s := s) (t := t) (H2.bel S.belT) (H3.bel S.belT) hs (by omega) hB hR) ?_; rintro e_ w ⟨X3, e4, rfl, S_⟩; refine ⟨_, rfl, (fun _ => S_.belT), ?_⟩; clear E a; intro a E
      replace S : St _ _ _ [_, .obj _ _ [_, _, _, _, _, _, _, _], .obj _ _ [_, _, _, _, _, _, _, _]] := St.call (A := []) (R := [_, _]) S S_; clear S_
      refine Run.move rfl E rfl rfl rfl ?_; clear E a; intro a E
      refine Run.extract rfl E rfl rfl rfl rfl ?_; clear E a; intro a E
      refine Run.extract rfl E rfl rfl rfl rfl ?_; clear E a; intro a E
      refine Run.assign rfl E rfl rfl rfl ?_; clear E a; intro a E
      refine Run.assign rfl E rfl rfl rfl ?_; clear E a; intro a E
      refine Run.nil ?_
      refine then_n ?_
      refine wp_seq ?_
      refine wp_seq ?_
      refine region_plain (n := 2) [(0, .p), (1, .p)] rfl rfl ?_
      refine Run.move rfl E rfl rfl rfl ?_; clear E a; intro a E
      refine Run.nei rfl E rfl rfl rfl rfl (b := false) (by decide) ?_; clear E a; intro a E
      refine Run.nil ?_
      refine then_n ?_
      refine cond_F E rfl ?_
      refine wp_skip ?_
      refine then_n ?_
      refine wp_seq ?_
      refine region_plain (n := 4) [(0, .l), (1, .e), (2, .e), (3, .l)] rfl rfl ?_
      refine Run.loadN (cs := [.int .i64 s.kind, .int .i64 s.node, .int .i64 s.phase, .int .i64 s.pos, .int .i64 s.start, .int .i64 s.depth, .int .i64 s.org, .slice C s.caps.length d]) rfl rfl E S rfl rfl rfl ag34 rfl (fun _ s => objAll s 2 rfl) ?_; clear E a; intro a E
      refine Run.call (args := [.agg #[.int .i64 s.kind, .int .i64 s.node, .int .i64 s.phase, .int .i64 s.pos, .int .i64 s.start, .int .i64 s.depth, .int .i64 s.org, .slice C s.caps.length d]]) rfl rfl E rfl rfl Try.func44 nm44 rfl rfl (own_walk (s := s) (H2.bel S.belT) (by omega)) ?_; rintro e_ w ⟨D5, e6, rfl, S_⟩; refine ⟨_, rfl, (fun _ => S_.belT), ?_⟩; clear E a; intro a E
      replace S : St _ _ _ [_, _, .obj _ _ [_, _, _, _, _, _, _, _], .obj _ _ [_, _, _, _, _, _, _, _]] := St.call (A := []) (R := [_, _, _]) S S_; clear S_
      refine Run.alloc rfl rfl E S rfl rfl z34 rfl ?_; clear E a S; intro b7 w a E S B_; clear B_
      refine Run.store (news := [.int .i64 s.kind, .int .i64 s.node, .int .i64 s.phase, .int .i64 s.pos, .int .i64 s.start, .int .i64 s.depth, .int .i64 s.org, .slice D5 s.caps.length e6]) (cs' := [_, _, _, _, _, _, _, _]) (hp' := [_, _, _, _, _]) 0 rfl E S rfl rfl rfl rfl rfl sz34 rfl rfl rfl rfl ?_; clear S; intro w S
      refine Run.nil ?_
      refine then_n ?_
      refine wp_mid (fun a w => ∃ b9 : Nat, ∃ D9 : Option Addr, ∃ e9 : Nat, Env 70 [(4, .pointer (some ⟨b1, 0, none⟩)), (5, .pointer (some ⟨b2, 0, none⟩)), (8, .bool false), (9, .slice X3 ((rec18 s t).length) e4), (11, .pointer (some ⟨b7, 0, none⟩)), (12, .pointer (some ⟨b9, 0, none⟩)), (13, .int .i64 (IntKind.i64.wrap (((hd.length + (rec18 s t).length : Nat) : Int) - (hd.length : Int)))), (14, .int .i64 0)] a ∧ St [] w0 w [.obj b9 34 [.int .i64 t.kind, .int .i64 t.node, .int .i64 t.phase, .int .i64 t.pos, .int .i64 t.start, .int .i64 t.depth, .int .i64 t.org, .slice D9 t.caps.length e9], .row (.slice D9 t.caps.length e9) 3 1 t.caps.length (ints t.caps), .obj b7 34 [.int .i64 s.kind, .int .i64 s.node, .int .i64 s.phase, .int .i64 s.pos, .int .i64 s.start, .int .i64 s.depth, .int .i64 s.org, .slice D5 s.caps.length e6], .row (.slice D5 s.caps.length e6) 3 1 s.caps.length (ints s.caps), .row (.slice X3 ((rec18 s t).length) e4) 5 1 ((rec18 s t).length) (u8s (rec18 s t)), .obj b2 34 [.int .i64 t.kind, .int .i64 t.node, .int .i64 t.phase, .int .i64 t.pos, .int .i64 t.start, .int .i64 t.depth, .int .i64 t.org, .slice B t.caps.length e], .obj b1 34 [.int .i64 s.kind, .int .i64 s.node, .int .i64 s.phase, .int .i64 s.pos, .int .i64 s.start, .int .i64 s.depth, .int .i64 s.org, .slice C s.caps.length d]]) ?_ ?_
      · skip
        refine region_tree (n := 19) (.one 2 .p (.one 4 .p (.one 6 .p (.one 8 .p (.one 9 .p (.alt 0 (.alt 1 (.altl 3 (.altl 5 (.altl 7 (.alt 10 (.one 11 .p (.one 12 .p (.one 13 .p (.one 14 .p (.one 15 .e (.one 16 .l (.one 17 .p (.one 18 .p .done)))))))) (.alt 15 (.one 10 .e (.one 11 .p (.one 12 .p (.one 13 .p (.one 14 .p (.one 16 .l (.one 17 .p (.one 18 .p .done)))))))) .none)) (.alt 15 (.one 7 .l (.one 10 .e (.one 11 .p (.one 12 .p (.one 13 .p (.one 14 .p (.one 16 .l (.one 17 .p (.one 18 .p .done))))))))) .none)) (.alt 15 (.one 5 .l (.one 7 .l (.one 10 .e (.one 11 .p (.one 12 .p (.one 13 .p (.one 14 .p (.one 16 .l (.one 17 .p (.one 18 .p .done)))))))))) .none)) (.alt 15 (.one 3 .l (.one 5 .l (.one 7 .l (.one 10 .e (.one 11 .p (.one 12 .p (.one 13 .p (.one 14 .p (.one 16 .l (.one 17 .p (.one 18 .p .done))))))))))) .none)) (.alt 15 (.one 1 .e (.one 3 .l (.one 5 .l (.one 7 .l (.one 10 .e (.one 11 .p (.one 12 .p (.one 13 .p (.one 14 .p (.one 16 .l (.one 17 .p (.one 18 .p .done)))))))))))) .none)) (.alt 1 (.alt 0 (.altl 3 (.altl 5 (.altl 7 (.alt 10 (.one 11 .p (.one 12 .p (.one 13 .p (.one 14 .p (.one 15 .e (.one 16 .l (.one 17 .p (.one 18 .p .done)))))))) (.alt 15 (.one 10 .e (.one 11 .p (.one 12 .p (.one 13 .p (.one 14 .p (.one 16 .l (.one 17 .p (.one 18 .p .done)))))))) .none)) (.alt 15 (.one 7 .l (.one 10 .e (.one 11 .p (.one 12 .p (.one 13 .p (.one 14 .p (.one 16 .l (.one 17 .p (.one 18 .p .done))))))))) .none)) (.alt 15 (.one 5 .l (.one 7 .l (.one 10 .e (.one 11 .p (.one 12 .p (.one 13 .p (.one 14 .p (.one 16 .l (.one 17 .p (.one 18 .p .done)))))))))) .none)) (.alt 15 (.one 3 .l (.one 5 .l (.one 7 .l (.one 10 .e (.one 11 .p (.one 12 .p (.one 13 .p (.one 14 .p (.one 16 .l (.one 17 .p (.one 18 .p .done))))))))))) .none)) (.altl 3 (.alt 0 (.altl 5 (.altl 7 (.alt 10 (.one 11 .p (.one 12 .p (.one 13 .p (.one 14 .p (.one 15 .e (.one 16 .l (.one 17 .p (.one 18 .p .done)))))))) (.alt 15 (.one 10 .e (.one 11 .p (.one 12 .p (.one 13 .p (.one 14 .p (.one 16 .l (.one 17 .p (.one 18 .p .done)))))))) .none)) (.alt 15 (.one 7 .l (.one 10 .e (.one 11 .p (.one 12 .p (.one 13 .p (.one 14 .p (.one 16 .l (.one 17 .p (.one 18 .p .done))))))))) .none)) (.alt 15 (.one 5 .l (.one 7 .l (.one 10 .e (.one 11 .p (.one 12 .p (.one 13 .p (.one 14 .p (.one 16 .l (.one 17 .p (.one 18 .p .done)))))))))) .none)) (.altl 5 (.alt 0 (.altl 7 (.alt 10 (.one 11 .p (.one 12 .p (.one 13 .p (.one 14 .p (.one 15 .e (.one 16 .l (.one 17 .p (.one 18 .p .done)))))))) (.alt 15 (.one 10 .e (.one 11 .p (.one 12 .p (.one 13 .p (.one 14 .p (.one 16 .l (.one 17 .p (.one 18 .p .done)))))))) .none)) (.alt 15 (.one 7 .l (.one 10 .e (.one 11 .p (.one 12 .p (.one 13 .p (.one 14 .p (.one 16 .l (.one 17 .p (.one 18 .p .done))))))))) .none)) (.altl 7 (.one 0 .t (.alt 10 (.one 11 .p (.one 12 .p (.one 13 .p (.one 14 .p (.one 15 .e (.one 16 .l (.one 17 .p (.one 18 .p .done)))))))) (.alt 15 (.one 10 .e (.one 11 .p (.one 12 .p (.one 13 .p (.one 14 .p (.one 16 .l (.one 17 .p (.one 18 .p .done)))))))) .none))) (.alt 15 (.alt 0 (.one 7 .l (.one 10 .e (.one 11 .p (.one 12 .p (.one 13 .p (.one 14 .p (.one 16 .l (.one 17 .p (.one 18 .p .done))))))))) (.altl 7 (.one 0 .t (.one 10 .e (.one 11 .p (.one 12 .p (.one 13 .p (.one 14 .p (.one 16 .l (.one 17 .p (.one 18 .p .done))))))))) .none)) .none))) (.alt 15 (.alt 0 (.one 5 .l (.one 7 .l (.one 10 .e (.one 11 .p (.one 12 .p (.one 13 .p (.one 14 .p (.one 16 .l (.one 17 .p (.one 18 .p .done)))))))))) (.altl 5 (.alt 0 (.one 7 .l (.one 10 .e (.one 11 .p (.one 12 .p (.one 13 .p (.one 14 .p (.one 16 .l (.one 17 .p (.one 18 .p .done))))))))) (.altl 7 (.one 0 .t (.one 10 .e (.one 11 .p (.one 12 .p (.one 13 .p (.one 14 .p (.one 16 .l (.one 17 .p (.one 18 .p .done))))))))) .none)) .none)) .none))) (.alt 15 (.alt 0 (.one 3 .l (.one 5 .l (.one 7 .l (.one 10 .e (.one 11 .p (.one 12 .p (.one 13 .p (.one 14 .p (.one 16 .l (.one 17 .p (.one 18 .p .done))))))))))) (.altl 3 (.alt 0 (.one 5 .l (.one 7 .l (.one 10 .e (.one 11 .p (.one 12 .p (.one 13 .p (.one 14 .p (.one 16 .l (.one 17 .p (.one 18 .p .done)))))))))) (.altl 5 (.alt 0 (.one 7 .l (.one 10 .e (.one 11 .p (.one 12 .p (.one 13 .p (.one 14 .p (.one 16 .l (.one 17 .p (.one 18 .p .done))))))))) (.altl 7 (.one 0 .t (.one 10 .e (.one 11 .p (.one 12 .p (.one 13 .p (.one 14 .p (.one 16 .l (.one 17 .p (.one 18 .p .done))))))))) .none)) .none)) .none)) .none))) (.alt 15 (.alt 0 (.one 1 .e (.one 3 .l (.one 5 .l (.one 7 .l (.one 10 .e (.one 11 .p (.one 12 .p (.one 13 .p (.one 14 .p (.one 16 .l (.one 17 .p (.one 18 .p .done)))))))))))) (.alt 1 (.alt 0 (.one 3 .l (.one 5 .l (.one 7 .l (.one 10 .e (.one 11 .p (.one 12 .p (.one 13 .p (.one 14 .p (.one 16 .l (.one 17 .p (.one 18 .p .done))))))))))) (.altl 3 (.alt 0 (.one 5 .l (.one 7 .l (.one 10 .e (.one 11 .p (.one 12 .p (.one 13 .p (.one 14 .p (.one 16 .l (.one 17 .p (.one 18 .p .done)))))))))) (.altl 5 (.alt 0 (.one 7 .l (.one 10 .e (.one 11 .p (.one 12 .p (.one 13 .p (.one 14 .p (.one 16 .l (.one 17 .p (.one 18 .p .done))))))))) (.altl 7 (.one 0 .t (.one 10 .e (.one 11 .p (.one 12 .p (.one 13 .p (.one 14 .p (.one 16 .l (.one 17 .p (.one 18 .p .done))))))))) .none)) .none)) .none)) .none)) .none)))))))) [0, 0, 0, 6, 0, 30, 0, 126, 0, 256, 1023, 2047, 4095, 4095, 4095, 0, 40959, 114687, 262143] S mixed rfl rfl (by kernel_rfl) (fun _ _ _ _ _ h => h) ?_; clear S; intro w S B_; clear B_
        refine RunT.one ?_
        refine Run.move rfl E rfl rfl rfl ?_; clear E a; intro a E
        refine RunT.end ?_
        refine RunT.one ?_
        refine Run.move rfl E rfl rfl rfl ?_; clear E a; intro a E
        refine RunT.end ?_
        refine RunT.one ?_
        refine Run.move rfl E rfl rfl rfl ?_; clear E a; intro a E
        refine RunT.end ?_
        refine RunT.one ?_
        refine Run.move rfl E rfl rfl rfl ?_; clear E a; intro a E
        refine RunT.end ?_
        refine RunT.one ?_
        refine Run.len rfl E rfl rfl rfl Try.underlying22 ?_; clear E a; intro a E
        refine RunT.end ?_
        refine RunT.alt ?_ ?_
        · skip
          refine Run.loadN (cs := [.int .i64 s.kind, .int .i64 s.node, .int .i64 s.phase, .int .i64 s.pos, .int .i64 s.start, .int .i64 s.depth, .int .i64 s.org, .slice C s.caps.length d]) rfl rfl E S rfl rfl rfl ag34 rfl (fun _ s => objAll s 4 rfl) ?_; clear E a; intro a E
          refine RunT.end ?_
          refine RunT.alt ?_ ?_
          · skip
            refine Run.buildSlice (cs := []) [] rfl rfl E S rfl rfl rfl Try.underlying22 (by kernel_rfl) ?_; clear E a S; intro b8 w a E S B_; clear B_
            refine RunT.end ?_
            refine RunT.altl ?_ ?_
            · skip
              replace S : St _ _ _ [_, _, _, _, _, _] := S.objRow (sz := 1) (n := 0) 0 rfl rfl (Nat.zero_le _) rfl
              refine Run.appendRd (news := u8s hd) (nm := hd.length) 0 rfl E S rfl rfl rfl rfl rfl Try.underlying22 I5 rfl rfl (H1.bel S.belT) (u8s_one _) (by simp) (by simp only [List.length_append] at *; omega) (by simp only [List.length_append] at *; omega) ?_; clear E a S; intro A9 c10 w a E S
              replace S : St _ _ _ [_, .obj _ _ [_, _, _, _, _, _, _, _], _, _, .obj _ _ [_, _, _, _, _, _, _, _], .obj _ _ [_, _, _, _, _, _, _, _]] := S
              replace S : St _ _ _ [.row (.slice A9 hd.length c10) 5 1 hd.length (u8s hd), _, _, _, _, _] := S
              refine RunT.end ?_
              refine RunT.altl ?_ ?_
              · skip
                refine Run.appendRd (news := u8s (rec18 s t)) (nm := (hd ++ rec18 s t).length) 0 rfl E S rfl rfl rfl rfl rfl Try.underlying22 I5 rfl rfl (S.rd 3 rfl) (u8s_one _) (by simp only [List.length_append]) (by simp only [List.length_append] at *; omega) (by simp only [List.length_append] at *; omega) ?_; clear E a S; intro A11 c12 w a E S
                rw [u8s_append] at S
                replace S : St _ _ _ [_, .obj _ _ [_, _, _, _, _, _, _, _], _, _, .obj _ _ [_, _, _, _, _, _, _, _], .obj _ _ [_, _, _, _, _, _, _, _]] := S
                refine RunT.end ?_
                refine RunT.altl ?_ ?_
                · skip
                  refine Run.appendRd (news := u8s tl) (nm := (hd ++ rec18 s t ++ tl).length) 0 rfl E S rfl rfl rfl rfl rfl Try.underlying22 I5 rfl rfl (H4.bel S.belT) (u8s_one _) (by simp only [List.length_append]) (by simp only [List.length_append] at *; omega) (by simp only [List.length_append] at *; omega) ?_; clear E a S; intro A13 c14 w a E S
                  rw [u8s_append] at S
                  replace S : St _ _ _ [_, .obj _ _ [_, _, _, _, _, _, _, _], _, _, .obj _ _ [_, _, _, _, _, _, _, _], .obj _ _ [_, _, _, _, _, _, _, _]] := S
                  refine RunT.end ?_
                  refine RunT.alt ?_ ?_
                  · skip
                    refine Run.call (args := [.agg #[.int .i64 s.kind, .int .i64 s.node, .int .i64 s.phase, .int .i64 s.pos, .int .i64 s.start, .int .i64 s.depth, .int .i64 s.org, .slice C s.caps.length d], .slice A13 ((hd ++ rec18 s t ++ tl).length) c14, .int .i64 (hd.length : Int)]) rfl rfl E rfl rfl Try.func66 nm66 rfl rfl (read_ok (t := t) (b := hd ++ rec18 s t ++ tl) (S.rd 0 rfl) hbB (by simp only [List.length_append]; omega) (H2.bel S.belT) hB (Int.natCast_nonneg _) hat (base_len hB) hrd hR) ?_; rintro e_ w ⟨D15, e16, rfl, S_⟩; refine ⟨_, rfl, (fun _ => S_.belT), ?_⟩; clear E a; intro a E
                    replace S : St _ _ _ [_, _, .obj _ _ [_, _, _, _, _, _, _, _], _, _, .obj _ _ [_, _, _, _, _, _, _, _], .obj _ _ [_, _, _, _, _, _, _, _]] := St.call (A := []) (R := [_, _, _, _, _, _]) S S_; clear S_
                    refine RunT.end ?_
                    refine RunT.one ?_
                    refine Run.move rfl E rfl rfl rfl ?_; clear E a; intro a E
                    refine RunT.end ?_
                    refine RunT.one ?_
                    refine Run.extract rfl E rfl rfl rfl rfl ?_; clear E a; intro a E
                    refine RunT.end ?_
                    refine RunT.one ?_
                    refine Run.extract rfl E rfl rfl rfl rfl ?_; clear E a; intro a E
                    refine RunT.end ?_
                    refine RunT.one ?_
                    refine Run.extract rfl E rfl rfl rfl rfl ?_; clear E a; intro a E
                    refine RunT.end ?_
                    refine RunT.one ?_
                    refine Run.alloc rfl rfl E S rfl rfl z34 rfl ?_; clear E a S; intro b17 w a E S B_; clear B_
                    refine RunT.end ?_
                    refine RunT.one ?_
                    refine Run.store (news := [.int .i64 t.kind, .int .i64 t.node, .int .i64 t.phase, .int .i64 t.pos, .int .i64 t.start, .int .i64 t.depth, .int .i64 t.org, .slice D15 t.caps.length e16]) (cs' := [_, _, _, _, _, _, _, _]) (hp' := [_, _, _, _, _, _, _, _]) 0 rfl E S rfl rfl rfl rfl rfl sz34 rfl rfl rfl rfl ?_; clear S; intro w S
                    refine RunT.end ?_
                    refine RunT.one ?_
                    refine Run.assign rfl E rfl rfl rfl ?_; clear E a; intro a E
                    refine RunT.end ?_
                    refine RunT.one ?_
                    refine Run.assign rfl E rfl rfl rfl ?_; clear E a; intro a E
                    refine RunT.end ?_
                    refine RunT.done ?_
                    refine then_n ?_
                    have S : St _ _ _ [_, _, _, _, _, _, _, _] := S.sel [2, 0, 1, 3, 4, 5, 6, 7] _ rfl rfl
                    have S := S.drop1
                    exact ⟨b17, D15, e16, E.keeps [(4, _), (5, _), (8, _), (9, _), (11, _), (12, _), (13, _), (14, _)] ⟨rfl, rfl, rfl, rfl, rfl, rfl, rfl, rfl, trivial⟩, S⟩
                  · skip
                    refine RunT.alt ?_ ?_
                    · skip
                      refine Run.alloc rfl rfl E S rfl rfl z34 rfl ?_; clear E a S; intro b18 w a E S B_; clear B_
                      refine RunT.end ?_
                      refine RunT.one ?_
                      refine Run.call (args := [.agg #[.int .i64 s.kind, .int .i64 s.node, .int .i64 s.phase, .int .i64 s.pos, .int .i64 s.start, .int .i64 s.depth, .int .i64 s.org, .slice C s.caps.length d], .slice A13 ((hd ++ rec18 s t ++ tl).length) c14, .int .i64 (hd.length : Int)]) rfl rfl E rfl rfl Try.func66 nm66 rfl rfl (read_ok (t := t) (b := hd ++ rec18 s t ++ tl) (S.rd 1 rfl) hbB (by simp only [List.length_append]; omega) (H2.bel S.belT) hB (Int.natCast_nonneg _) hat (base_len hB) hrd hR) ?_; rintro e_ w ⟨D19, e20, rfl, S_⟩; refine ⟨_, rfl, (fun _ => S_.belT), ?_⟩; clear E a; intro a E
                      replace S : St _ _ _ [_, .obj _ _ [_, _, _, _, _, _, _, _], _, .obj _ _ [_, _, _, _, _, _, _, _], _, _, .obj _ _ [_, _, _, _, _, _, _, _], .obj _ _ [_, _, _, _, _, _, _, _]] := St.call (A := []) (R := [_, _, _, _, _, _, _]) S S_; clear S_
                      refine RunT.end ?_
                      refine RunT.one ?_
                      refine Run.move rfl E rfl rfl rfl ?_; clear E a; intro a E
                      refine RunT.end ?_
                      refine RunT.one ?_
                      refine Run.extract rfl E rfl rfl rfl rfl ?_; clear E a; intro a E
                      refine RunT.end ?_
                      refine RunT.one ?_
                      refine Run.extract rfl E rfl rfl rfl rfl ?_; clear E a; intro a E
                      refine RunT.end ?_
                      refine RunT.one ?_
                      refine Run.extract rfl E rfl rfl rfl rfl ?_; clear E a; intro a E
                      refine RunT.end ?_
                      refine RunT.one ?_
                      refine Run.store (news := [.int .i64 t.kind, .int .i64 t.node, .int .i64 t.phase, .int .i64 t.pos, .int .i64 t.start, .int .i64 t.depth, .int .i64 t.org, .slice D19 t.caps.length e20]) (cs' := [_, _, _, _, _, _, _, _]) (hp' := [_, _, _, _, _, _, _, _]) 1 rfl E S rfl rfl rfl rfl rfl sz34 rfl rfl rfl rfl ?_; clear S; intro w S
                      refine RunT.end ?_
                      refine RunT.one ?_
                      refine Run.assign rfl E rfl rfl rfl ?_; clear E a; intro a E
                      refine RunT.end ?_
                      refine RunT.one ?_
                      refine Run.assign rfl E rfl rfl rfl ?_; clear E a; intro a E
                      refine RunT.end ?_
                      refine RunT.done ?_
                      refine then_n ?_
                      have S : St _ _ _ [_, _, _, _, _, _, _, _] := S.sel [2, 1, 0, 3, 4, 5, 6, 7] _ rfl rfl
                      have S := S.drop1
                      exact ⟨b18, D19, e20, E.keeps [(4, _), (5, _), (8, _), (9, _), (11, _), (12, _), (13, _), (14, _)] ⟨rfl, rfl, rfl, rfl, rfl, rfl, rfl, rfl, trivial⟩, S⟩
                    · skip
                      exact RunT.none
                · skip
                  refine RunT.alt ?_ ?_
                  · skip
                    refine Run.alloc rfl rfl E S rfl rfl z34 rfl ?_; clear E a S; intro b21 w a E S B_; clear B_
                    refine RunT.end ?_
                    refine RunT.one ?_
                    refine Run.appendRd (news := u8s tl) (nm := (hd ++ rec18 s t ++ tl).length) 1 rfl E S rfl rfl rfl rfl rfl Try.underlying22 I5 rfl rfl (H4.bel S.belT) (u8s_one _) (by simp only [List.length_append]) (by simp only [List.length_append] at *; omega) (by simp only [List.length_append] at *; omega) ?_; clear E a S; intro A22 c23 w a E S
                    rw [u8s_append] at S
                    replace S : St _ _ _ [.obj _ _ [_, _, _, _, _, _, _, _], _, .obj _ _ [_, _, _, _, _, _, _, _], _, _, .obj _ _ [_, _, _, _, _, _, _, _], .obj _ _ [_, _, _, _, _, _, _, _]] := S
                    refine RunT.end ?_
                    refine RunT.one ?_
                    refine Run.call (args := [.agg #[.int .i64 s.kind, .int .i64 s.node, .int .i64 s.phase, .int .i64 s.pos, .int .i64 s.start, .int .i64 s.depth, .int .i64 s.org, .slice C s.caps.length d], .slice A22 ((hd ++ rec18 s t ++ tl).length) c23, .int .i64 (hd.length : Int)]) rfl rfl E rfl rfl Try.func66 nm66 rfl rfl (read_ok (t := t) (b := hd ++ rec18 s t ++ tl) (S.rd 1 rfl) hbB (by simp only [List.length_append]; omega) (H2.bel S.belT) hB (Int.natCast_nonneg _) hat (base_len hB) hrd hR) ?_; rintro e_ w ⟨D24, e25, rfl, S_⟩; refine ⟨_, rfl, (fun _ => S_.belT), ?_⟩; clear E a; intro a E
                    replace S : St _ _ _ [_, .obj _ _ [_, _, _, _, _, _, _, _], _, .obj _ _ [_, _, _, _, _, _, _, _], _, _, .obj _ _ [_, _, _, _, _, _, _, _], .obj _ _ [_, _, _, _, _, _, _, _]] := St.call (A := []) (R := [_, _, _, _, _, _, _]) S S_; clear S_
                    refine RunT.end ?_
                    refine RunT.one ?_
                    refine Run.move rfl E rfl rfl rfl ?_; clear E a; intro a E
                    refine RunT.end ?_
                    refine RunT.one ?_
                    refine Run.extract rfl E rfl rfl rfl rfl ?_; clear E a; intro a E
                    refine RunT.end ?_
                    refine RunT.one ?_
                    refine Run.extract rfl E rfl rfl rfl rfl ?_; clear E a; intro a E
                    refine RunT.end ?_
                    refine RunT.one ?_
                    refine Run.extract rfl E rfl rfl rfl rfl ?_; clear E a; intro a E
                    refine RunT.end ?_
                    refine RunT.one ?_
                    refine Run.store (news := [.int .i64 t.kind, .int .i64 t.node, .int .i64 t.phase, .int .i64 t.pos, .int .i64 t.start, .int .i64 t.depth, .int .i64 t.org, .slice D24 t.caps.length e25]) (cs' := [_, _, _, _, _, _, _, _]) (hp' := [_, _, _, _, _, _, _, _]) 1 rfl E S rfl rfl rfl rfl rfl sz34 rfl rfl rfl rfl ?_; clear S; intro w S
                    refine RunT.end ?_
                    refine RunT.one ?_
                    refine Run.assign rfl E rfl rfl rfl ?_; clear E a; intro a E
                    refine RunT.end ?_
                    refine RunT.one ?_
                    refine Run.assign rfl E rfl rfl rfl ?_; clear E a; intro a E
                    refine RunT.end ?_
                    refine RunT.done ?_
                    refine then_n ?_
                    have S : St _ _ _ [_, _, _, _, _, _, _, _] := S.sel [2, 1, 0, 3, 4, 5, 6, 7] _ rfl rfl
                    have S := S.drop1
                    exact ⟨b21, D24, e25, E.keeps [(4, _), (5, _), (8, _), (9, _), (11, _), (12, _), (13, _), (14, _)] ⟨rfl, rfl, rfl, rfl, rfl, rfl, rfl, rfl, trivial⟩, S⟩
                  · skip
                    exact RunT.none
              · skip
                refine RunT.alt ?_ ?_
                · skip
                  refine Run.alloc rfl rfl E S rfl rfl z34 rfl ?_; clear E a S; intro b26 w a E S B_; clear B_
                  refine RunT.end ?_
                  refine RunT.one ?_
                  refine Run.appendRd (news := u8s (rec18 s t)) (nm := (hd ++ rec18 s t).length) 1 rfl E S rfl rfl rfl rfl rfl Try.underlying22 I5 rfl rfl (S.rd 4 rfl) (u8s_one _) (by simp only [List.length_append]) (by simp only [List.length_append] at *; omega) (by simp only [List.length_append] at *; omega) ?_; clear E a S; intro A27 c28 w a E S
                  rw [u8s_append] at S
                  replace S : St _ _ _ [.obj _ _ [_, _, _, _, _, _, _, _], _, .obj _ _ [_, _, _, _, _, _, _, _], _, _, .obj _ _ [_, _, _, _, _, _, _, _], .obj _ _ [_, _, _, _, _, _, _, _]] := S
                  refine RunT.end ?_
                  refine RunT.one ?_
                  refine Run.appendRd (news := u8s tl) (nm := (hd ++ rec18 s t ++ tl).length) 1 rfl E S rfl rfl rfl rfl rfl Try.underlying22 I5 rfl rfl (H4.bel S.belT) (u8s_one _) (by simp only [List.length_append]) (by simp only [List.length_append] at *; omega) (by simp only [List.length_append] at *; omega) ?_; clear E a S; intro A29 c30 w a E S
                  rw [u8s_append] at S
                  replace S : St _ _ _ [.obj _ _ [_, _, _, _, _, _, _, _], _, .obj _ _ [_, _, _, _, _, _, _, _], _, _, .obj _ _ [_, _, _, _, _, _, _, _], .obj _ _ [_, _, _, _, _, _, _, _]] := S
                  refine RunT.end ?_
                  refine RunT.one ?_
                  refine Run.call (args := [.agg #[.int .i64 s.kind, .int .i64 s.node, .int .i64 s.phase, .int .i64 s.pos, .int .i64 s.start, .int .i64 s.depth, .int .i64 s.org, .slice C s.caps.length d], .slice A29 ((hd ++ rec18 s t ++ tl).length) c30, .int .i64 (hd.length : Int)]) rfl rfl E rfl rfl Try.func66 nm66 rfl rfl (read_ok (t := t) (b := hd ++ rec18 s t ++ tl) (S.rd 1 rfl) hbB (by simp only [List.length_append]; omega) (H2.bel S.belT) hB (Int.natCast_nonneg _) hat (base_len hB) hrd hR) ?_; rintro e_ w ⟨D31, e32, rfl, S_⟩; refine ⟨_, rfl, (fun _ => S_.belT), ?_⟩; clear E a; intro a E
                  replace S : St _ _ _ [_, .obj _ _ [_, _, _, _, _, _, _, _], _, .obj _ _ [_, _, _, _, _, _, _, _], _, _, .obj _ _ [_, _, _, _, _, _, _, _], .obj _ _ [_, _, _, _, _, _, _, _]] := St.call (A := []) (R := [_, _, _, _, _, _, _]) S S_; clear S_
                  refine RunT.end ?_
                  refine RunT.one ?_
                  refine Run.move rfl E rfl rfl rfl ?_; clear E a; intro a E
                  refine RunT.end ?_
                  refine RunT.one ?_
                  refine Run.extract rfl E rfl rfl rfl rfl ?_; clear E a; intro a E
                  refine RunT.end ?_
                  refine RunT.one ?_
                  refine Run.extract rfl E rfl rfl rfl rfl ?_; clear E a; intro a E
                  refine RunT.end ?_
                  refine RunT.one ?_
                  refine Run.extract rfl E rfl rfl rfl rfl ?_; clear E a; intro a E
                  refine RunT.end ?_
                  refine RunT.one ?_
                  refine Run.store (news := [.int .i64 t.kind, .int .i64 t.node, .int .i64 t.phase, .int .i64 t.pos, .int .i64 t.start, .int .i64 t.depth, .int .i64 t.org, .slice D31 t.caps.length e32]) (cs' := [_, _, _, _, _, _, _, _]) (hp' := [_, _, _, _, _, _, _, _]) 1 rfl E S rfl rfl rfl rfl rfl sz34 rfl rfl rfl rfl ?_; clear S; intro w S
                  refine RunT.end ?_
                  refine RunT.one ?_
                  refine Run.assign rfl E rfl rfl rfl ?_; clear E a; intro a E
                  refine RunT.end ?_
                  refine RunT.one ?_
                  refine Run.assign rfl E rfl rfl rfl ?_; clear E a; intro a E
                  refine RunT.end ?_
                  refine RunT.done ?_
                  refine then_n ?_
                  have S : St _ _ _ [_, _, _, _, _, _, _, _] := S.sel [2, 1, 0, 3, 4, 5, 6, 7] _ rfl rfl
                  have S := S.drop1
                  exact ⟨b26, D31, e32, E.keeps [(4, _), (5, _), (8, _), (9, _), (11, _), (12, _), (13, _), (14, _)] ⟨rfl, rfl, rfl, rfl, rfl, rfl, rfl, rfl, trivial⟩, S⟩
                · skip
                  exact RunT.none
            · skip
              refine RunT.alt ?_ ?_
              · skip
                refine Run.alloc rfl rfl E S rfl rfl z34 rfl ?_; clear E a S; intro b33 w a E S B_; clear B_
                refine RunT.end ?_
                refine RunT.one ?_
                replace S : St _ _ _ [_, _, _, _, _, _, _] := S.objRow (sz := 1) (n := 0) 1 rfl rfl (Nat.zero_le _) rfl
                refine Run.appendRd (news := u8s hd) (nm := hd.length) 1 rfl E S rfl rfl rfl rfl rfl Try.underlying22 I5 rfl rfl (H1.bel S.belT) (u8s_one _) (by simp) (by simp only [List.length_append] at *; omega) (by simp only [List.length_append] at *; omega) ?_; clear E a S; intro A34 c35 w a E S
                replace S : St _ _ _ [.obj _ _ [_, _, _, _, _, _, _, _], _, .obj _ _ [_, _, _, _, _, _, _, _], _, _, .obj _ _ [_, _, _, _, _, _, _, _], .obj _ _ [_, _, _, _, _, _, _, _]] := S
                replace S : St _ _ _ [_, .row (.slice A34 hd.length c35) 5 1 hd.length (u8s hd), _, _, _, _, _] := S
                refine RunT.end ?_
                refine RunT.one ?_
                refine Run.appendRd (news := u8s (rec18 s t)) (nm := (hd ++ rec18 s t).length) 1 rfl E S rfl rfl rfl rfl rfl Try.underlying22 I5 rfl rfl (S.rd 4 rfl) (u8s_one _) (by simp only [List.length_append]) (by simp only [List.length_append] at *; omega) (by simp only [List.length_append] at *; omega) ?_; clear E a S; intro A36 c37 w a E S
                rw [u8s_append] at S
                replace S : St _ _ _ [.obj _ _ [_, _, _, _, _, _, _, _], _, .obj _ _ [_, _, _, _, _, _, _, _], _, _, .obj _ _ [_, _, _, _, _, _, _, _], .obj _ _ [_, _, _, _, _, _, _, _]] := S
                refine RunT.end ?_
                refine RunT.one ?_
                refine Run.appendRd (news := u8s tl) (nm := (hd ++ rec18 s t ++ tl).length) 1 rfl E S rfl rfl rfl rfl rfl Try.underlying22 I5 rfl rfl (H4.bel S.belT) (u8s_one _) (by simp only [List.length_append]) (by simp only [List.length_append] at *; omega) (by simp only [List.length_append] at *; omega) ?_; clear E a S; intro A38 c39 w a E S
                rw [u8s_append] at S
                replace S : St _ _ _ [.obj _ _ [_, _, _, _, _, _, _, _], _, .obj _ _ [_, _, _, _, _, _, _, _], _, _, .obj _ _ [_, _, _, _, _, _, _, _], .obj _ _ [_, _, _, _, _, _, _, _]] := S
                refine RunT.end ?_
                refine RunT.one ?_
                refine Run.call (args := [.agg #[.int .i64 s.kind, .int .i64 s.node, .int .i64 s.phase, .int .i64 s.pos, .int .i64 s.start, .int .i64 s.depth, .int .i64 s.org, .slice C s.caps.length d], .slice A38 ((hd ++ rec18 s t ++ tl).length) c39, .int .i64 (hd.length : Int)]) rfl rfl E rfl rfl Try.func66 nm66 rfl rfl (read_ok (t := t) (b := hd ++ rec18 s t ++ tl) (S.rd 1 rfl) hbB (by simp only [List.length_append]; omega) (H2.bel S.belT) hB (Int.natCast_nonneg _) hat (base_len hB) hrd hR) ?_; rintro e_ w ⟨D40, e41, rfl, S_⟩; refine ⟨_, rfl, (fun _ => S_.belT), ?_⟩; clear E a; intro a E
                replace S : St _ _ _ [_, .obj _ _ [_, _, _, _, _, _, _, _], _, .obj _ _ [_, _, _, _, _, _, _, _], _, _, .obj _ _ [_, _, _, _, _, _, _, _], .obj _ _ [_, _, _, _, _, _, _, _]] := St.call (A := []) (R := [_, _, _, _, _, _, _]) S S_; clear S_
                refine RunT.end ?_
                refine RunT.one ?_
                refine Run.move rfl E rfl rfl rfl ?_; clear E a; intro a E
                refine RunT.end ?_
                refine RunT.one ?_
                refine Run.extract rfl E rfl rfl rfl rfl ?_; clear E a; intro a E
                refine RunT.end ?_
                refine RunT.one ?_
                refine Run.extract rfl E rfl rfl rfl rfl ?_; clear E a; intro a E
                refine RunT.end ?_
                refine RunT.one ?_
                refine Run.extract rfl E rfl rfl rfl rfl ?_; clear E a; intro a E
                refine RunT.end ?_
                refine RunT.one ?_
                refine Run.store (news := [.int .i64 t.kind, .int .i64 t.node, .int .i64 t.phase, .int .i64 t.pos, .int .i64 t.start, .int .i64 t.depth, .int .i64 t.org, .slice D40 t.caps.length e41]) (cs' := [_, _, _, _, _, _, _, _]) (hp' := [_, _, _, _, _, _, _, _]) 1 rfl E S rfl rfl rfl rfl rfl sz34 rfl rfl rfl rfl ?_; clear S; intro w S
                refine RunT.end ?_
                refine RunT.one ?_
                refine Run.assign rfl E rfl rfl rfl ?_; clear E a; intro a E
                refine RunT.end ?_
                refine RunT.one ?_
                refine Run.assign rfl E rfl rfl rfl ?_; clear E a; intro a E
                refine RunT.end ?_
                refine RunT.done ?_
                refine then_n ?_
                have S : St _ _ _ [_, _, _, _, _, _, _, _] := S.sel [2, 1, 0, 3, 4, 5, 6, 7] _ rfl rfl
                have S := S.drop1
                exact ⟨b33, D40, e41, E.keeps [(4, _), (5, _), (8, _), (9, _), (11, _), (12, _), (13, _), (14, _)] ⟨rfl, rfl, rfl, rfl, rfl, rfl, rfl, rfl, trivial⟩, S⟩
              · skip
                exact RunT.none
          · skip
            refine RunT.alt ?_ ?_
            · skip
              refine Run.alloc rfl rfl E S rfl rfl z34 rfl ?_; clear E a S; intro b42 w a E S B_; clear B_
              refine RunT.end ?_
              refine RunT.one ?_
              refine Run.buildSlice (cs := []) [] rfl rfl E S rfl rfl rfl Try.underlying22 (by kernel_rfl) ?_; clear E a S; intro b43 w a E S B_; clear B_
              refine RunT.end ?_
              refine RunT.one ?_
              replace S : St _ _ _ [_, _, _, _, _, _, _] := S.objRow (sz := 1) (n := 0) 0 rfl rfl (Nat.zero_le _) rfl
              refine Run.appendRd (news := u8s hd) (nm := hd.length) 0 rfl E S rfl rfl rfl rfl rfl Try.underlying22 I5 rfl rfl (H1.bel S.belT) (u8s_one _) (by simp) (by simp only [List.length_append] at *; omega) (by simp only [List.length_append] at *; omega) ?_; clear E a S; intro A44 c45 w a E S
              replace S : St _ _ _ [_, .obj _ _ [_, _, _, _, _, _, _, _], .obj _ _ [_, _, _, _, _, _, _, _], _, _, .obj _ _ [_, _, _, _, _, _, _, _], .obj _ _ [_, _, _, _, _, _, _, _]] := S
              replace S : St _ _ _ [.row (.slice A44 hd.length c45) 5 1 hd.length (u8s hd), _, _, _, _, _, _] := S
              refine RunT.end ?_
              refine RunT.one ?_
              refine Run.appendRd (news := u8s (rec18 s t)) (nm := (hd ++ rec18 s t).length) 0 rfl E S rfl rfl rfl rfl rfl Try.underlying22 I5 rfl rfl (S.rd 4 rfl) (u8s_one _) (by simp only [List.length_append]) (by simp only [List.length_append] at *; omega) (by simp only [List.length_append] at *; omega) ?_; clear E a S; intro A46 c47 w a E S
              rw [u8s_append] at S
              replace S : St _ _ _ [_, .obj _ _ [_, _, _, _, _, _, _, _], .obj _ _ [_, _, _, _, _, _, _, _], _, _, .obj _ _ [_, _, _, _, _, _, _, _], .obj _ _ [_, _, _, _, _, _, _, _]] := S
              refine RunT.end ?_
              refine RunT.one ?_
              refine Run.appendRd (news := u8s tl) (nm := (hd ++ rec18 s t ++ tl).length) 0 rfl E S rfl rfl rfl rfl rfl Try.underlying22 I5 rfl rfl (H4.bel S.belT) (u8s_one _) (by simp only [List.length_append]) (by simp only [List.length_append] at *; omega) (by simp only [List.length_append] at *; omega) ?_; clear E a S; intro A48 c49 w a E S
              rw [u8s_append] at S
              replace S : St _ _ _ [_, .obj _ _ [_, _, _, _, _, _, _, _], .obj _ _ [_, _, _, _, _, _, _, _], _, _, .obj _ _ [_, _, _, _, _, _, _, _], .obj _ _ [_, _, _, _, _, _, _, _]] := S
              refine RunT.end ?_
              refine RunT.one ?_
              refine Run.call (args := [.agg #[.int .i64 s.kind, .int .i64 s.node, .int .i64 s.phase, .int .i64 s.pos, .int .i64 s.start, .int .i64 s.depth, .int .i64 s.org, .slice C s.caps.length d], .slice A48 ((hd ++ rec18 s t ++ tl).length) c49, .int .i64 (hd.length : Int)]) rfl rfl E rfl rfl Try.func66 nm66 rfl rfl (read_ok (t := t) (b := hd ++ rec18 s t ++ tl) (S.rd 0 rfl) hbB (by simp only [List.length_append]; omega) (H2.bel S.belT) hB (Int.natCast_nonneg _) hat (base_len hB) hrd hR) ?_; rintro e_ w ⟨D50, e51, rfl, S_⟩; refine ⟨_, rfl, (fun _ => S_.belT), ?_⟩; clear E a; intro a E
              replace S : St _ _ _ [_, _, .obj _ _ [_, _, _, _, _, _, _, _], .obj _ _ [_, _, _, _, _, _, _, _], _, _, .obj _ _ [_, _, _, _, _, _, _, _], .obj _ _ [_, _, _, _, _, _, _, _]] := St.call (A := []) (R := [_, _, _, _, _, _, _]) S S_; clear S_
              refine RunT.end ?_
              refine RunT.one ?_
              refine Run.move rfl E rfl rfl rfl ?_; clear E a; intro a E
              refine RunT.end ?_
              refine RunT.one ?_
              refine Run.extract rfl E rfl rfl rfl rfl ?_; clear E a; intro a E
              refine RunT.end ?_
              refine RunT.one ?_
              refine Run.extract rfl E rfl rfl rfl rfl ?_; clear E a; intro a E
              refine RunT.end ?_
              refine RunT.one ?_
              refine Run.extract rfl E rfl rfl rfl rfl ?_; clear E a; intro a E
              refine RunT.end ?_
              refine RunT.one ?_
              refine Run.store (news := [.int .i64 t.kind, .int .i64 t.node, .int .i64 t.phase, .int .i64 t.pos, .int .i64 t.start, .int .i64 t.depth, .int .i64 t.org, .slice D50 t.caps.length e51]) (cs' := [_, _, _, _, _, _, _, _]) (hp' := [_, _, _, _, _, _, _, _]) 2 rfl E S rfl rfl rfl rfl rfl sz34 rfl rfl rfl rfl ?_; clear S; intro w S
              refine RunT.end ?_
              refine RunT.one ?_
              refine Run.assign rfl E rfl rfl rfl ?_; clear E a; intro a E
              refine RunT.end ?_
              refine RunT.one ?_
              refine Run.assign rfl E rfl rfl rfl ?_; clear E a; intro a E
              refine RunT.end ?_
              refine RunT.done ?_
              refine then_n ?_
              have S : St _ _ _ [_, _, _, _, _, _, _, _] := S.sel [1, 2, 0, 3, 4, 5, 6, 7] _ rfl rfl
              have S := S.drop1
              exact ⟨b42, D50, e51, E.keeps [(4, _), (5, _), (8, _), (9, _), (11, _), (12, _), (13, _), (14, _)] ⟨rfl, rfl, rfl, rfl, rfl, rfl, rfl, rfl, trivial⟩, S⟩
            · skip
              exact RunT.none
        · skip
          refine RunT.alt ?_ ?_
          · skip
            refine Run.buildSlice (cs := []) [] rfl rfl E S rfl rfl rfl Try.underlying22 (by kernel_rfl) ?_; clear E a S; intro b52 w a E S B_; clear B_
            refine RunT.end ?_
            refine RunT.alt ?_ ?_
            · skip
              refine Run.loadN (cs := [.int .i64 s.kind, .int .i64 s.node, .int .i64 s.phase, .int .i64 s.pos, .int .i64 s.start, .int .i64 s.depth, .int .i64 s.org, .slice C s.caps.length d]) rfl rfl E S rfl rfl rfl ag34 rfl (fun _ s => objAll s 5 rfl) ?_; clear E a; intro a E
              refine RunT.end ?_
              refine RunT.altl ?_ ?_
              · skip
                replace S : St _ _ _ [_, _, _, _, _, _] := S.objRow (sz := 1) (n := 0) 0 rfl rfl (Nat.zero_le _) rfl
                refine Run.appendRd (news := u8s hd) (nm := hd.length) 0 rfl E S rfl rfl rfl rfl rfl Try.underlying22 I5 rfl rfl (H1.bel S.belT) (u8s_one _) (by simp) (by simp only [List.length_append] at *; omega) (by simp only [List.length_append] at *; omega) ?_; clear E a S; intro A53 c54 w a E S
                replace S : St _ _ _ [_, .obj _ _ [_, _, _, _, _, _, _, _], _, _, .obj _ _ [_, _, _, _, _, _, _, _], .obj _ _ [_, _, _, _, _, _, _, _]] := S
                replace S : St _ _ _ [.row (.slice A53 hd.length c54) 5 1 hd.length (u8s hd), _, _, _, _, _] := S
                refine RunT.end ?_
                refine RunT.altl ?_ ?_
                · skip
                  refine Run.appendRd (news := u8s (rec18 s t)) (nm := (hd ++ rec18 s t).length) 0 rfl E S rfl rfl rfl rfl rfl Try.underlying22 I5 rfl rfl (S.rd 3 rfl) (u8s_one _) (by simp only [List.length_append]) (by simp only [List.length_append] at *; omega) (by simp only [List.length_append] at *; omega) ?_; clear E a S; intro A55 c56 w a E S
                  rw [u8s_append] at S
                  replace S : St _ _ _ [_, .obj _ _ [_, _, _, _, _, _, _, _], _, _, .obj _ _ [_, _, _, _, _, _, _, _], .obj _ _ [_, _, _, _, _, _, _, _]] := S
                  refine RunT.end ?_
                  refine RunT.altl ?_ ?_
                  · skip
                    refine Run.appendRd (news := u8s tl) (nm := (hd ++ rec18 s t ++ tl).length) 0 rfl E S rfl rfl rfl rfl rfl Try.underlying22 I5 rfl rfl (H4.bel S.belT) (u8s_one _) (by simp only [List.length_append]) (by simp only [List.length_append] at *; omega) (by simp only [List.length_append] at *; omega) ?_; clear E a S; intro A57 c58 w a E S
                    rw [u8s_append] at S
                    replace S : St _ _ _ [_, .obj _ _ [_, _, _, _, _, _, _, _], _, _, .obj _ _ [_, _, _, _, _, _, _, _], .obj _ _ [_, _, _, _, _, _, _, _]] := S
                    refine RunT.end ?_
                    refine RunT.alt ?_ ?_
                    · skip
                      refine Run.call (args := [.agg #[.int .i64 s.kind, .int .i64 s.node, .int .i64 s.phase, .int .i64 s.pos, .int .i64 s.start, .int .i64 s.depth, .int .i64 s.org, .slice C s.caps.length d], .slice A57 ((hd ++ rec18 s t ++ tl).length) c58, .int .i64 (hd.length : Int)]) rfl rfl E rfl rfl Try.func66 nm66 rfl rfl (read_ok (t := t) (b := hd ++ rec18 s t ++ tl) (S.rd 0 rfl) hbB (by simp only [List.length_append]; omega) (H2.bel S.belT) hB (Int.natCast_nonneg _) hat (base_len hB) hrd hR) ?_; rintro e_ w ⟨D59, e60, rfl, S_⟩; refine ⟨_, rfl, (fun _ => S_.belT), ?_⟩; clear E a; intro a E
                      replace S : St _ _ _ [_, _, .obj _ _ [_, _, _, _, _, _, _, _], _, _, .obj _ _ [_, _, _, _, _, _, _, _], .obj _ _ [_, _, _, _, _, _, _, _]] := St.call (A := []) (R := [_, _, _, _, _, _]) S S_; clear S_
                      refine RunT.end ?_
                      refine RunT.one ?_
                      refine Run.move rfl E rfl rfl rfl ?_; clear E a; intro a E
                      refine RunT.end ?_
                      refine RunT.one ?_
                      refine Run.extract rfl E rfl rfl rfl rfl ?_; clear E a; intro a E
                      refine RunT.end ?_
                      refine RunT.one ?_
                      refine Run.extract rfl E rfl rfl rfl rfl ?_; clear E a; intro a E
                      refine RunT.end ?_
                      refine RunT.one ?_
                      refine Run.extract rfl E rfl rfl rfl rfl ?_; clear E a; intro a E
                      refine RunT.end ?_
                      refine RunT.one ?_
                      refine Run.alloc rfl rfl E S rfl rfl z34 rfl ?_; clear E a S; intro b61 w a E S B_; clear B_
                      refine RunT.end ?_
                      refine RunT.one ?_
                      refine Run.store (news := [.int .i64 t.kind, .int .i64 t.node, .int .i64 t.phase, .int .i64 t.pos, .int .i64 t.start, .int .i64 t.depth, .int .i64 t.org, .slice D59 t.caps.length e60]) (cs' := [_, _, _, _, _, _, _, _]) (hp' := [_, _, _, _, _, _, _, _]) 0 rfl E S rfl rfl rfl rfl rfl sz34 rfl rfl rfl rfl ?_; clear S; intro w S
                      refine RunT.end ?_
                      refine RunT.one ?_
                      refine Run.assign rfl E rfl rfl rfl ?_; clear E a; intro a E
                      refine RunT.end ?_
                      refine RunT.one ?_
                      refine Run.assign rfl E rfl rfl rfl ?_; clear E a; intro a E
                      refine RunT.end ?_
                      refine RunT.done ?_
                      refine then_n ?_
                      have S : St _ _ _ [_, _, _, _, _, _, _, _] := S.sel [2, 0, 1, 3, 4, 5, 6, 7] _ rfl rfl
                      have S := S.drop1
                      exact ⟨b61, D59, e60, E.keeps [(4, _), (5, _), (8, _), (9, _), (11, _), (12, _), (13, _), (14, _)] ⟨rfl, rfl, rfl, rfl, rfl, rfl, rfl, rfl, trivial⟩, S⟩
                    · skip
                      refine RunT.alt ?_ ?_
                      · skip
                        refine Run.alloc rfl rfl E S rfl rfl z34 rfl ?_; clear E a S; intro b62 w a E S B_; clear B_
                        refine RunT.end ?_
                        refine RunT.one ?_
                        refine Run.call (args := [.agg #[.int .i64 s.kind, .int .i64 s.node, .int .i64 s.phase, .int .i64 s.pos, .int .i64 s.start, .int .i64 s.depth, .int .i64 s.org, .slice C s.caps.length d], .slice A57 ((hd ++ rec18 s t ++ tl).length) c58, .int .i64 (hd.length : Int)]) rfl rfl E rfl rfl Try.func66 nm66 rfl rfl (read_ok (t := t) (b := hd ++ rec18 s t ++ tl) (S.rd 1 rfl) hbB (by simp only [List.length_append]; omega) (H2.bel S.belT) hB (Int.natCast_nonneg _) hat (base_len hB) hrd hR) ?_; rintro e_ w ⟨D63, e64, rfl, S_⟩; refine ⟨_, rfl, (fun _ => S_.belT), ?_⟩; clear E a; intro a E
                        replace S : St _ _ _ [_, .obj _ _ [_, _, _, _, _, _, _, _], _, .obj _ _ [_, _, _, _, _, _, _, _], _, _, .obj _ _ [_, _, _, _, _, _, _, _], .obj _ _ [_, _, _, _, _, _, _, _]] := St.call (A := []) (R := [_, _, _, _, _, _, _]) S S_; clear S_
                        refine RunT.end ?_
                        refine RunT.one ?_
                        refine Run.move rfl E rfl rfl rfl ?_; clear E a; intro a E
                        refine RunT.end ?_
                        refine RunT.one ?_
                        refine Run.extract rfl E rfl rfl rfl rfl ?_; clear E a; intro a E
                        refine RunT.end ?_
                        refine RunT.one ?_
                        refine Run.extract rfl E rfl rfl rfl rfl ?_; clear E a; intro a E
                        refine RunT.end ?_
                        refine RunT.one ?_
                        refine Run.extract rfl E rfl rfl rfl rfl ?_; clear E a; intro a E
                        refine RunT.end ?_
                        refine RunT.one ?_
                        refine Run.store (news := [.int .i64 t.kind, .int .i64 t.node, .int .i64 t.phase, .int .i64 t.pos, .int .i64 t.start, .int .i64 t.depth, .int .i64 t.org, .slice D63 t.caps.length e64]) (cs' := [_, _, _, _, _, _, _, _]) (hp' := [_, _, _, _, _, _, _, _]) 1 rfl E S rfl rfl rfl rfl rfl sz34 rfl rfl rfl rfl ?_; clear S; intro w S
                        refine RunT.end ?_
                        refine RunT.one ?_
                        refine Run.assign rfl E rfl rfl rfl ?_; clear E a; intro a E
                        refine RunT.end ?_
                        refine RunT.one ?_
                        refine Run.assign rfl E rfl rfl rfl ?_; clear E a; intro a E
                        refine RunT.end ?_
                        refine RunT.done ?_
                        refine then_n ?_
                        have S : St _ _ _ [_, _, _, _, _, _, _, _] := S.sel [2, 1, 0, 3, 4, 5, 6, 7] _ rfl rfl
                        have S := S.drop1
                        exact ⟨b62, D63, e64, E.keeps [(4, _), (5, _), (8, _), (9, _), (11, _), (12, _), (13, _), (14, _)] ⟨rfl, rfl, rfl, rfl, rfl, rfl, rfl, rfl, trivial⟩, S⟩
                      · skip
                        exact RunT.none
                  · skip
                    refine RunT.alt ?_ ?_
                    · skip
                      refine Run.alloc rfl rfl E S rfl rfl z34 rfl ?_; clear E a S; intro b65 w a E S B_; clear B_
                      refine RunT.end ?_
                      refine RunT.one ?_
                      refine Run.appendRd (news := u8s tl) (nm := (hd ++ rec18 s t ++ tl).length) 1 rfl E S rfl rfl rfl rfl rfl Try.underlying22 I5 rfl rfl (H4.bel S.belT) (u8s_one _) (by simp only [List.length_append]) (by simp only [List.length_append] at *; omega) (by simp only [List.length_append] at *; omega) ?_; clear E a S; intro A66 c67 w a E S
                      rw [u8s_append] at S
                      replace S : St _ _ _ [.obj _ _ [_, _, _, _, _, _, _, _], _, .obj _ _ [_, _, _, _, _, _, _, _], _, _, .obj _ _ [_, _, _, _, _, _, _, _], .obj _ _ [_, _, _, _, _, _, _, _]] := S
                      refine RunT.end ?_
                      refine RunT.one ?_
                      refine Run.call (args := [.agg #[.int .i64 s.kind, .int .i64 s.node, .int .i64 s.phase, .int .i64 s.pos, .int .i64 s.start, .int .i64 s.depth, .int .i64 s.org, .slice C s.caps.length d], .slice A66 ((hd ++ rec18 s t ++ tl).length) c67, .int .i64 (hd.length : Int)]) rfl rfl E rfl rfl Try.func66 nm66 rfl rfl (read_ok (t := t) (b := hd ++ rec18 s t ++ tl) (S.rd 1 rfl) hbB (by simp only [List.length_append]; omega) (H2.bel S.belT) hB (Int.natCast_nonneg _) hat (base_len hB) hrd hR) ?_; rintro e_ w ⟨D68, e69, rfl, S_⟩; refine ⟨_, rfl, (fun _ => S_.belT), ?_⟩; clear E a; intro a E
                      replace S : St _ _ _ [_, .obj _ _ [_, _, _, _, _, _, _, _], _, .obj _ _ [_, _, _, _, _, _, _, _], _, _, .obj _ _ [_, _, _, _, _, _, _, _], .obj _ _ [_, _, _, _, _, _, _, _]] := St.call (A := []) (R := [_, _, _, _, _, _, _]) S S_; clear S_
                      refine RunT.end ?_
                      refine RunT.one ?_
                      refine Run.move rfl E rfl rfl rfl ?_; clear E a; intro a E
                      refine RunT.end ?_
                      refine RunT.one ?_
                      refine Run.extract rfl E rfl rfl rfl rfl ?_; clear E a; intro a E
                      refine RunT.end ?_
                      refine RunT.one ?_
                      refine Run.extract rfl E rfl rfl rfl rfl ?_; clear E a; intro a E
                      refine RunT.end ?_
                      refine RunT.one ?_
                      refine Run.extract rfl E rfl rfl rfl rfl ?_; clear E a; intro a E
                      refine RunT.end ?_
                      refine RunT.one ?_
                      refine Run.store (news := [.int .i64 t.kind, .int .i64 t.node, .int .i64 t.phase, .int .i64 t.pos, .int .i64 t.start, .int .i64 t.depth, .int .i64 t.org, .slice D68 t.caps.length e69]) (cs' := [_, _, _, _, _, _, _, _]) (hp' := [_, _, _, _, _, _, _, _]) 1 rfl E S rfl rfl rfl rfl rfl sz34 rfl rfl rfl rfl ?_; clear S; intro w S
                      refine RunT.end ?_
                      refine RunT.one ?_
                      refine Run.assign rfl E rfl rfl rfl ?_; clear E a; intro a E
                      refine RunT.end ?_
                      refine RunT.one ?_
                      refine Run.assign rfl E rfl rfl rfl ?_; clear E a; intro a E
                      refine RunT.end ?_
                      refine RunT.done ?_
                      refine then_n ?_
                      have S : St _ _ _ [_, _, _, _, _, _, _, _] := S.sel [2, 1, 0, 3, 4, 5, 6, 7] _ rfl rfl
                      have S := S.drop1
                      exact ⟨b65, D68, e69, E.keeps [(4, _), (5, _), (8, _), (9, _), (11, _), (12, _), (13, _), (14, _)] ⟨rfl, rfl, rfl, rfl, rfl, rfl, rfl, rfl, trivial⟩, S⟩
                    · skip
                      exact RunT.none
                · skip
                  refine RunT.alt ?_ ?_
                  · skip
                    refine Run.alloc rfl rfl E S rfl rfl z34 rfl ?_; clear E a S; intro b70 w a E S B_; clear B_
                    refine RunT.end ?_
                    refine RunT.one ?_
                    refine Run.appendRd (news := u8s (rec18 s t)) (nm := (hd ++ rec18 s t).length) 1 rfl E S rfl rfl rfl rfl rfl Try.underlying22 I5 rfl rfl (S.rd 4 rfl) (u8s_one _) (by simp only [List.length_append]) (by simp only [List.length_append] at *; omega) (by simp only [List.length_append] at *; omega) ?_; clear E a S; intro A71 c72 w a E S
                    rw [u8s_append] at S
                    replace S : St _ _ _ [.obj _ _ [_, _, _, _, _, _, _, _], _, .obj _ _ [_, _, _, _, _, _, _, _], _, _, .obj _ _ [_, _, _, _, _, _, _, _], .obj _ _ [_, _, _, _, _, _, _, _]] := S
                    refine RunT.end ?_
                    refine RunT.one ?_
                    refine Run.appendRd (news := u8s tl) (nm := (hd ++ rec18 s t ++ tl).length) 1 rfl E S rfl rfl rfl rfl rfl Try.underlying22 I5 rfl rfl (H4.bel S.belT) (u8s_one _) (by simp only [List.length_append]) (by simp only [List.length_append] at *; omega) (by simp only [List.length_append] at *; omega) ?_; clear E a S; intro A73 c74 w a E S
                    rw [u8s_append] at S
                    replace S : St _ _ _ [.obj _ _ [_, _, _, _, _, _, _, _], _, .obj _ _ [_, _, _, _, _, _, _, _], _, _, .obj _ _ [_, _, _, _, _, _, _, _], .obj _ _ [_, _, _, _, _, _, _, _]] := S
                    refine RunT.end ?_
                    refine RunT.one ?_
                    refine Run.call (args := [.agg #[.int .i64 s.kind, .int .i64 s.node, .int .i64 s.phase, .int .i64 s.pos, .int .i64 s.start, .int .i64 s.depth, .int .i64 s.org, .slice C s.caps.length d], .slice A73 ((hd ++ rec18 s t ++ tl).length) c74, .int .i64 (hd.length : Int)]) rfl rfl E rfl rfl Try.func66 nm66 rfl rfl (read_ok (t := t) (b := hd ++ rec18 s t ++ tl) (S.rd 1 rfl) hbB (by simp only [List.length_append]; omega) (H2.bel S.belT) hB (Int.natCast_nonneg _) hat (base_len hB) hrd hR) ?_; rintro e_ w ⟨D75, e76, rfl, S_⟩; refine ⟨_, rfl, (fun _ => S_.belT), ?_⟩; clear E a; intro a E
                    replace S : St _ _ _ [_, .obj _ _ [_, _, _, _, _, _, _, _], _, .obj _ _ [_, _, _, _, _, _, _, _], _, _, .obj _ _ [_, _, _, _, _, _, _, _], .obj _ _ [_, _, _, _, _, _, _, _]] := St.call (A := []) (R := [_, _, _, _, _, _, _]) S S_; clear S_
                    refine RunT.end ?_
                    refine RunT.one ?_
                    refine Run.move rfl E rfl rfl rfl ?_; clear E a; intro a E
                    refine RunT.end ?_
                    refine RunT.one ?_
                    refine Run.extract rfl E rfl rfl rfl rfl ?_; clear E a; intro a E
                    refine RunT.end ?_
                    refine RunT.one ?_
                    refine Run.extract rfl E rfl rfl rfl rfl ?_; clear E a; intro a E
                    refine RunT.end ?_
                    refine RunT.one ?_
                    refine Run.extract rfl E rfl rfl rfl rfl ?_; clear E a; intro a E
                    refine RunT.end ?_
                    refine RunT.one ?_
                    refine Run.store (news := [.int .i64 t.kind, .int .i64 t.node, .int .i64 t.phase, .int .i64 t.pos, .int .i64 t.start, .int .i64 t.depth, .int .i64 t.org, .slice D75 t.caps.length e76]) (cs' := [_, _, _, _, _, _, _, _]) (hp' := [_, _, _, _, _, _, _, _]) 1 rfl E S rfl rfl rfl rfl rfl sz34 rfl rfl rfl rfl ?_; clear S; intro w S
                    refine RunT.end ?_
                    refine RunT.one ?_
                    refine Run.assign rfl E rfl rfl rfl ?_; clear E a; intro a E
                    refine RunT.end ?_
                    refine RunT.one ?_
                    refine Run.assign rfl E rfl rfl rfl ?_; clear E a; intro a E
                    refine RunT.end ?_
                    refine RunT.done ?_
                    refine then_n ?_
                    have S : St _ _ _ [_, _, _, _, _, _, _, _] := S.sel [2, 1, 0, 3, 4, 5, 6, 7] _ rfl rfl
                    have S := S.drop1
                    exact ⟨b70, D75, e76, E.keeps [(4, _), (5, _), (8, _), (9, _), (11, _), (12, _), (13, _), (14, _)] ⟨rfl, rfl, rfl, rfl, rfl, rfl, rfl, rfl, trivial⟩, S⟩
                  · skip
                    exact RunT.none
              · skip
                refine RunT.alt ?_ ?_
                · skip
                  refine Run.alloc rfl rfl E S rfl rfl z34 rfl ?_; clear E a S; intro b77 w a E S B_; clear B_
                  refine RunT.end ?_
                  refine RunT.one ?_
                  replace S : St _ _ _ [_, _, _, _, _, _, _] := S.objRow (sz := 1) (n := 0) 1 rfl rfl (Nat.zero_le _) rfl
                  refine Run.appendRd (news := u8s hd) (nm := hd.length) 1 rfl E S rfl rfl rfl rfl rfl Try.underlying22 I5 rfl rfl (H1.bel S.belT) (u8s_one _) (by simp) (by simp only [List.length_append] at *; omega) (by simp only [List.length_append] at *; omega) ?_; clear E a S; intro A78 c79 w a E S
                  replace S : St _ _ _ [.obj _ _ [_, _, _, _, _, _, _, _], _, .obj _ _ [_, _, _, _, _, _, _, _], _, _, .obj _ _ [_, _, _, _, _, _, _, _], .obj _ _ [_, _, _, _, _, _, _, _]] := S
                  replace S : St _ _ _ [_, .row (.slice A78 hd.length c79) 5 1 hd.length (u8s hd), _, _, _, _, _] := S
                  refine RunT.end ?_
                  refine RunT.one ?_
                  refine Run.appendRd (news := u8s (rec18 s t)) (nm := (hd ++ rec18 s t).length) 1 rfl E S rfl rfl rfl rfl rfl Try.underlying22 I5 rfl rfl (S.rd 4 rfl) (u8s_one _) (by simp only [List.length_append]) (by simp only [List.length_append] at *; omega) (by simp only [List.length_append] at *; omega) ?_; clear E a S; intro A80 c81 w a E S
                  rw [u8s_append] at S
                  replace S : St _ _ _ [.obj _ _ [_, _, _, _, _, _, _, _], _, .obj _ _ [_, _, _, _, _, _, _, _], _, _, .obj _ _ [_, _, _, _, _, _, _, _], .obj _ _ [_, _, _, _, _, _, _, _]] := S
                  refine RunT.end ?_
                  refine RunT.one ?_
                  refine Run.appendRd (news := u8s tl) (nm := (hd ++ rec18 s t ++ tl).length) 1 rfl E S rfl rfl rfl rfl rfl Try.underlying22 I5 rfl rfl (H4.bel S.belT) (u8s_one _) (by simp only [List.length_append]) (by simp only [List.length_append] at *; omega) (by simp only [List.length_append] at *; omega) ?_; clear E a S; intro A82 c83 w a E S
                  rw [u8s_append] at S
                  replace S : St _ _ _ [.obj _ _ [_, _, _, _, _, _, _, _], _, .obj _ _ [_, _, _, _, _, _, _, _], _, _, .obj _ _ [_, _, _, _, _, _, _, _], .obj _ _ [_, _, _, _, _, _, _, _]] := S
                  refine RunT.end ?_
                  refine RunT.one ?_
                  refine Run.call (args := [.agg #[.int .i64 s.kind, .int .i64 s.node, .int .i64 s.phase, .int .i64 s.pos, .int .i64 s.start, .int .i64 s.depth, .int .i64 s.org, .slice C s.caps.length d], .slice A82 ((hd ++ rec18 s t ++ tl).length) c83, .int .i64 (hd.length : Int)]) rfl rfl E rfl rfl Try.func66 nm66 rfl rfl (read_ok (t := t) (b := hd ++ rec18 s t ++ tl) (S.rd 1 rfl) hbB (by simp only [List.length_append]; omega) (H2.bel S.belT) hB (Int.natCast_nonneg _) hat (base_len hB) hrd hR) ?_; rintro e_ w ⟨D84, e85, rfl, S_⟩; refine ⟨_, rfl, (fun _ => S_.belT), ?_⟩; clear E a; intro a E
                  replace S : St _ _ _ [_, .obj _ _ [_, _, _, _, _, _, _, _], _, .obj _ _ [_, _, _, _, _, _, _, _], _, _, .obj _ _ [_, _, _, _, _, _, _, _], .obj _ _ [_, _, _, _, _, _, _, _]] := St.call (A := []) (R := [_, _, _, _, _, _, _]) S S_; clear S_
                  refine RunT.end ?_
                  refine RunT.one ?_
                  refine Run.move rfl E rfl rfl rfl ?_; clear E a; intro a E
                  refine RunT.end ?_
                  refine RunT.one ?_
                  refine Run.extract rfl E rfl rfl rfl rfl ?_; clear E a; intro a E
                  refine RunT.end ?_
                  refine RunT.one ?_
                  refine Run.extract rfl E rfl rfl rfl rfl ?_; clear E a; intro a E
                  refine RunT.end ?_
                  refine RunT.one ?_
                  refine Run.extract rfl E rfl rfl rfl rfl ?_; clear E a; intro a E
                  refine RunT.end ?_
                  refine RunT.one ?_
                  refine Run.store (news := [.int .i64 t.kind, .int .i64 t.node, .int .i64 t.phase, .int .i64 t.pos, .int .i64 t.start, .int .i64 t.depth, .int .i64 t.org, .slice D84 t.caps.length e85]) (cs' := [_, _, _, _, _, _, _, _]) (hp' := [_, _, _, _, _, _, _, _]) 1 rfl E S rfl rfl rfl rfl rfl sz34 rfl rfl rfl rfl ?_; clear S; intro w S
                  refine RunT.end ?_
                  refine RunT.one ?_
                  refine Run.assign rfl E rfl rfl rfl ?_; clear E a; intro a E
                  refine RunT.end ?_
                  refine RunT.one ?_
                  refine Run.assign rfl E rfl rfl rfl ?_; clear E a; intro a E
                  refine RunT.end ?_
                  refine RunT.done ?_
                  refine then_n ?_
                  have S : St _ _ _ [_, _, _, _, _, _, _, _] := S.sel [2, 1, 0, 3, 4, 5, 6, 7] _ rfl rfl
                  have S := S.drop1
                  exact ⟨b77, D84, e85, E.keeps [(4, _), (5, _), (8, _), (9, _), (11, _), (12, _), (13, _), (14, _)] ⟨rfl, rfl, rfl, rfl, rfl, rfl, rfl, rfl, trivial⟩, S⟩
                · skip
                  exact RunT.none
            · skip
              refine RunT.altl ?_ ?_
              · skip
                replace S : St _ _ _ [_, _, _, _, _, _] := S.objRow (sz := 1) (n := 0) 0 rfl rfl (Nat.zero_le _) rfl
                refine Run.appendRd (news := u8s hd) (nm := hd.length) 0 rfl E S rfl rfl rfl rfl rfl Try.underlying22 I5 rfl rfl (H1.bel S.belT) (u8s_one _) (by simp) (by simp only [List.length_append] at *; omega) (by simp only [List.length_append] at *; omega) ?_; clear E a S; intro A86 c87 w a E S
                replace S : St _ _ _ [_, .obj _ _ [_, _, _, _, _, _, _, _], _, _, .obj _ _ [_, _, _, _, _, _, _, _], .obj _ _ [_, _, _, _, _, _, _, _]] := S
                replace S : St _ _ _ [.row (.slice A86 hd.length c87) 5 1 hd.length (u8s hd), _, _, _, _, _] := S
                refine RunT.end ?_
                refine RunT.alt ?_ ?_
                · skip
                  refine Run.loadN (cs := [.int .i64 s.kind, .int .i64 s.node, .int .i64 s.phase, .int .i64 s.pos, .int .i64 s.start, .int .i64 s.depth, .int .i64 s.org, .slice C s.caps.length d]) rfl rfl E S rfl rfl rfl ag34 rfl (fun _ s => objAll s 5 rfl) ?_; clear E a; intro a E
                  refine RunT.end ?_
                  refine RunT.altl ?_ ?_
                  · skip
                    refine Run.appendRd (news := u8s (rec18 s t)) (nm := (hd ++ rec18 s t).length) 0 rfl E S rfl rfl rfl rfl rfl Try.underlying22 I5 rfl rfl (S.rd 3 rfl) (u8s_one _) (by simp only [List.length_append]) (by simp only [List.length_append] at *; omega) (by simp only [List.length_append] at *; omega) ?_; clear E a S; intro A88 c89 w a E S
                    rw [u8s_append] at S
                    replace S : St _ _ _ [_, .obj _ _ [_, _, _, _, _, _, _, _], _, _, .obj _ _ [_, _, _, _, _, _, _, _], .obj _ _ [_, _, _, _, _, _, _, _]] := S
                    refine RunT.end ?_
                    refine RunT.altl ?_ ?_
                    · skip
                      refine Run.appendRd (news := u8s tl) (nm := (hd ++ rec18 s t ++ tl).length) 0 rfl E S rfl rfl rfl rfl rfl Try.underlying22 I5 rfl rfl (H4.bel S.belT) (u8s_one _) (by simp only [List.length_append]) (by simp only [List.length_append] at *; omega) (by simp only [List.length_append] at *; omega) ?_; clear E a S; intro A90 c91 w a E S
                      rw [u8s_append] at S
                      replace S : St _ _ _ [_, .obj _ _ [_, _, _, _, _, _, _, _], _, _, .obj _ _ [_, _, _, _, _, _, _, _], .obj _ _ [_, _, _, _, _, _, _, _]] := S
                      refine RunT.end ?_
                      refine RunT.alt ?_ ?_
                      · skip
                        refine Run.call (args := [.agg #[.int .i64 s.kind, .int .i64 s.node, .int .i64 s.phase, .int .i64 s.pos, .int .i64 s.start, .int .i64 s.depth, .int .i64 s.org, .slice C s.caps.length d], .slice A90 ((hd ++ rec18 s t ++ tl).length) c91, .int .i64 (hd.length : Int)]) rfl rfl E rfl rfl Try.func66 nm66 rfl rfl (read_ok (t := t) (b := hd ++ rec18 s t ++ tl) (S.rd 0 rfl) hbB (by simp only [List.length_append]; omega) (H2.bel S.belT) hB (Int.natCast_nonneg _) hat (base_len hB) hrd hR) ?_; rintro e_ w ⟨D92, e93, rfl, S_⟩; refine ⟨_, rfl, (fun _ => S_.belT), ?_⟩; clear E a; intro a E
                        replace S : St _ _ _ [_, _, .obj _ _ [_, _, _, _, _, _, _, _], _, _, .obj _ _ [_, _, _, _, _, _, _, _], .obj _ _ [_, _, _, _, _, _, _, _]] := St.call (A := []) (R := [_, _, _, _, _, _]) S S_; clear S_
                        refine RunT.end ?_
                        refine RunT.one ?_
                        refine Run.move rfl E rfl rfl rfl ?_; clear E a; intro a E
                        refine RunT.end ?_
                        refine RunT.one ?_
                        refine Run.extract rfl E rfl rfl rfl rfl ?_; clear E a; intro a E
                        refine RunT.end ?_
                        refine RunT.one ?_
                        refine Run.extract rfl E rfl rfl rfl rfl ?_; clear E a; intro a E
                        refine RunT.end ?_
                        refine RunT.one ?_
                        refine Run.extract rfl E rfl rfl rfl rfl ?_; clear E a; intro a E
                        refine RunT.end ?_
                        refine RunT.one ?_
                        refine Run.alloc rfl rfl E S rfl rfl z34 rfl ?_; clear E a S; intro b94 w a E S B_; clear B_
                        refine RunT.end ?_
                        refine RunT.one ?_
                        refine Run.store (news := [.int .i64 t.kind, .int .i64 t.node, .int .i64 t.phase, .int .i64 t.pos, .int .i64 t.start, .int .i64 t.depth, .int .i64 t.org, .slice D92 t.caps.length e93]) (cs' := [_, _, _, _, _, _, _, _]) (hp' := [_, _, _, _, _, _, _, _]) 0 rfl E S rfl rfl rfl rfl rfl sz34 rfl rfl rfl rfl ?_; clear S; intro w S
                        refine RunT.end ?_
                        refine RunT.one ?_
                        refine Run.assign rfl E rfl rfl rfl ?_; clear E a; intro a E
                        refine RunT.end ?_
                        refine RunT.one ?_
                        refine Run.assign rfl E rfl rfl rfl ?_; clear E a; intro a E
                        refine RunT.end ?_
                        refine RunT.done ?_
                        refine then_n ?_
                        have S : St _ _ _ [_, _, _, _, _, _, _, _] := S.sel [2, 0, 1, 3, 4, 5, 6, 7] _ rfl rfl
                        have S := S.drop1
                        exact ⟨b94, D92, e93, E.keeps [(4, _), (5, _), (8, _), (9, _), (11, _), (12, _), (13, _), (14, _)] ⟨rfl, rfl, rfl, rfl, rfl, rfl, rfl, rfl, trivial⟩, S⟩
                      · skip
                        refine RunT.alt ?_ ?_
                        · skip
                          refine Run.alloc rfl rfl E S rfl rfl z34 rfl ?_; clear E a S; intro b95 w a E S B_; clear B_
                          refine RunT.end ?_
                          refine RunT.one ?_
                          refine Run.call (args := [.agg #[.int .i64 s.kind, .int .i64 s.node, .int .i64 s.phase, .int .i64 s.pos, .int .i64 s.start, .int .i64 s.depth, .int .i64 s.org, .slice C s.caps.length d], .slice A90 ((hd ++ rec18 s t ++ tl).length) c91, .int .i64 (hd.length : Int)]) rfl rfl E rfl rfl Try.func66 nm66 rfl rfl (read_ok (t := t) (b := hd ++ rec18 s t ++ tl) (S.rd 1 rfl) hbB (by simp only [List.length_append]; omega) (H2.bel S.belT) hB (Int.natCast_nonneg _) hat (base_len hB) hrd hR) ?_; rintro e_ w ⟨D96, e97, rfl, S_⟩; refine ⟨_, rfl, (fun _ => S_.belT), ?_⟩; clear E a; intro a E
                          replace S : St _ _ _ [_, .obj _ _ [_, _, _, _, _, _, _, _], _, .obj _ _ [_, _, _, _, _, _, _, _], _, _, .obj _ _ [_, _, _, _, _, _, _, _], .obj _ _ [_, _, _, _, _, _, _, _]] := St.call (A := []) (R := [_, _, _, _, _, _, _]) S S_; clear S_
                          refine RunT.end ?_
                          refine RunT.one ?_
                          refine Run.move rfl E rfl rfl rfl ?_; clear E a; intro a E
                          refine RunT.end ?_
                          refine RunT.one ?_
                          refine Run.extract rfl E rfl rfl rfl rfl ?_; clear E a; intro a E
                          refine RunT.end ?_
                          refine RunT.one ?_
                          refine Run.extract rfl E rfl rfl rfl rfl ?_; clear E a; intro a E
                          refine RunT.end ?_
                          refine RunT.one ?_
                          refine Run.extract rfl E rfl rfl rfl rfl ?_; clear E a; intro a E
                          refine RunT.end ?_
                          refine RunT.one ?_
                          refine Run.store (news := [.int .i64 t.kind, .int .i64 t.node, .int .i64 t.phase, .int .i64 t.pos, .int .i64 t.start, .int .i64 t.depth, .int .i64 t.org, .slice D96 t.caps.length e97]) (cs' := [_, _, _, _, _, _, _, _]) (hp' := [_, _, _, _, _, _, _, _]) 1 rfl E S rfl rfl rfl rfl rfl sz34 rfl rfl rfl rfl ?_; clear S; intro w S
                          refine RunT.end ?_
                          refine RunT.one ?_
                          refine Run.assign rfl E rfl rfl rfl ?_; clear E a; intro a E
                          refine RunT.end ?_
                          refine RunT.one ?_
                          refine Run.assign rfl E rfl rfl rfl ?_; clear E a; intro a E
                          refine RunT.end ?_
                          refine RunT.done ?_
                          refine then_n ?_
                          have S : St _ _ _ [_, _, _, _, _, _, _, _] := S.sel [2, 1, 0, 3, 4, 5, 6, 7] _ rfl rfl
                          have S := S.drop1
                          exact ⟨b95, D96, e97, E.keeps [(4, _), (5, _), (8, _), (9, _), (11, _), (12, _), (13, _), (14, _)] ⟨rfl, rfl, rfl, rfl, rfl, rfl, rfl, rfl, trivial⟩, S⟩
                        · skip
                          exact RunT.none
                    · skip
                      refine RunT.alt ?_ ?_
                      · skip
                        refine Run.alloc rfl rfl E S rfl rfl z34 rfl ?_; clear E a S; intro b98 w a E S B_; clear B_
                        refine RunT.end ?_
                        refine RunT.one ?_
                        refine Run.appendRd (news := u8s tl) (nm := (hd ++ rec18 s t ++ tl).length) 1 rfl E S rfl rfl rfl rfl rfl Try.underlying22 I5 rfl rfl (H4.bel S.belT) (u8s_one _) (by simp only [List.length_append]) (by simp only [List.length_append] at *; omega) (by simp only [List.length_append] at *; omega) ?_; clear E a S; intro A99 c100 w a E S
                        rw [u8s_append] at S
                        replace S : St _ _ _ [.obj _ _ [_, _, _, _, _, _, _, _], _, .obj _ _ [_, _, _, _, _, _, _, _], _, _, .obj _ _ [_, _, _, _, _, _, _, _], .obj _ _ [_, _, _, _, _, _, _, _]] := S
                        refine RunT.end ?_
                        refine RunT.one ?_
                        refine Run.call (args := [.agg #[.int .i64 s.kind, .int .i64 s.node, .int .i64 s.phase, .int .i64 s.pos, .int .i64 s.start, .int .i64 s.depth, .int .i64 s.org, .slice C s.caps.length d], .slice A99 ((hd ++ rec18 s t ++ tl).length) c100, .int .i64 (hd.length : Int)]) rfl rfl E rfl rfl Try.func66 nm66 rfl rfl (read_ok (t := t) (b := hd ++ rec18 s t ++ tl) (S.rd 1 rfl) hbB (by simp only [List.length_append]; omega) (H2.bel S.belT) hB (Int.natCast_nonneg _) hat (base_len hB) hrd hR) ?_; rintro e_ w ⟨D101, e102, rfl, S_⟩; refine ⟨_, rfl, (fun _ => S_.belT), ?_⟩; clear E a; intro a E
                        replace S : St _ _ _ [_, .obj _ _ [_, _, _, _, _, _, _, _], _, .obj _ _ [_, _, _, _, _, _, _, _], _, _, .obj _ _ [_, _, _, _, _, _, _, _], .obj _ _ [_, _, _, _, _, _, _, _]] := St.call (A := []) (R := [_, _, _, _, _, _, _]) S S_; clear S_
                        refine RunT.end ?_
                        refine RunT.one ?_
                        refine Run.move rfl E rfl rfl rfl ?_; clear E a; intro a E
                        refine RunT.end ?_
                        refine RunT.one ?_
                        refine Run.extract rfl E rfl rfl rfl rfl ?_; clear E a; intro a E
                        refine RunT.end ?_
                        refine RunT.one ?_
                        refine Run.extract rfl E rfl rfl rfl rfl ?_; clear E a; intro a E
                        refine RunT.end ?_
                        refine RunT.one ?_
                        refine Run.extract rfl E rfl rfl rfl rfl ?_; clear E a; intro a E
                        refine RunT.end ?_
                        refine RunT.one ?_
                        refine Run.store (news := [.int .i64 t.kind, .int .i64 t.node, .int .i64 t.phase, .int .i64 t.pos, .int .i64 t.start, .int .i64 t.depth, .int .i64 t.org, .slice D101 t.caps.length e102]) (cs' := [_, _, _, _, _, _, _, _]) (hp' := [_, _, _, _, _, _, _, _]) 1 rfl E S rfl rfl rfl rfl rfl sz34 rfl rfl rfl rfl ?_; clear S; intro w S
                        refine RunT.end ?_
                        refine RunT.one ?_
                        refine Run.assign rfl E rfl rfl rfl ?_; clear E a; intro a E
                        refine RunT.end ?_
                        refine RunT.one ?_
                        refine Run.assign rfl E rfl rfl rfl ?_; clear E a; intro a E
                        refine RunT.end ?_
                        refine RunT.done ?_
                        refine then_n ?_
                        have S : St _ _ _ [_, _, _, _, _, _, _, _] := S.sel [2, 1, 0, 3, 4, 5, 6, 7] _ rfl rfl
                        have S := S.drop1
                        exact ⟨b98, D101, e102, E.keeps [(4, _), (5, _), (8, _), (9, _), (11, _), (12, _), (13, _), (14, _)] ⟨rfl, rfl, rfl, rfl, rfl, rfl, rfl, rfl, trivial⟩, S⟩
                      · skip
                        exact RunT.none
                  · skip
                    refine RunT.alt ?_ ?_
                    · skip
                      refine Run.alloc rfl rfl E S rfl rfl z34 rfl ?_; clear E a S; intro b103 w a E S B_; clear B_
                      refine RunT.end ?_
                      refine RunT.one ?_
                      refine Run.appendRd (news := u8s (rec18 s t)) (nm := (hd ++ rec18 s t).length) 1 rfl E S rfl rfl rfl rfl rfl Try.underlying22 I5 rfl rfl (S.rd 4 rfl) (u8s_one _) (by simp only [List.length_append]) (by simp only [List.length_append] at *; omega) (by simp only [List.length_append] at *; omega) ?_; clear E a S; intro A104 c105 w a E S
                      rw [u8s_append] at S
                      replace S : St _ _ _ [.obj _ _ [_, _, _, _, _, _, _, _], _, .obj _ _ [_, _, _, _, _, _, _, _], _, _, .obj _ _ [_, _, _, _, _, _, _, _], .obj _ _ [_, _, _, _, _, _, _, _]] := S
                      refine RunT.end ?_
                      refine RunT.one ?_
                      refine Run.appendRd (news := u8s tl) (nm := (hd ++ rec18 s t ++ tl).length) 1 rfl E S rfl rfl rfl rfl rfl Try.underlying22 I5 rfl rfl (H4.bel S.belT) (u8s_one _) (by simp only [List.length_append]) (by simp only [List.length_append] at *; omega) (by simp only [List.length_append] at *; omega) ?_; clear E a S; intro A106 c107 w a E S
                      rw [u8s_append] at S
                      replace S : St _ _ _ [.obj _ _ [_, _, _, _, _, _, _, _], _, .obj _ _ [_, _, _, _, _, _, _, _], _, _, .obj _ _ [_, _, _, _, _, _, _, _], .obj _ _ [_, _, _, _, _, _, _, _]] := S
                      refine RunT.end ?_
                      refine RunT.one ?_
                      refine Run.call (args := [.agg #[.int .i64 s.kind, .int .i64 s.node, .int .i64 s.phase, .int .i64 s.pos, .int .i64 s.start, .int .i64 s.depth, .int .i64 s.org, .slice C s.caps.length d], .slice A106 ((hd ++ rec18 s t ++ tl).length) c107, .int .i64 (hd.length : Int)]) rfl rfl E rfl rfl Try.func66 nm66 rfl rfl (read_ok (t := t) (b := hd ++ rec18 s t ++ tl) (S.rd 1 rfl) hbB (by simp only [List.length_append]; omega) (H2.bel S.belT) hB (Int.natCast_nonneg _) hat (base_len hB) hrd hR) ?_; rintro e_ w ⟨D108, e109, rfl, S_⟩; refine ⟨_, rfl, (fun _ => S_.belT), ?_⟩; clear E a; intro a E
                      replace S : St _ _ _ [_, .obj _ _ [_, _, _, _, _, _, _, _], _, .obj _ _ [_, _, _, _, _, _, _, _], _, _, .obj _ _ [_, _, _, _, _, _, _, _], .obj _ _ [_, _, _, _, _, _, _, _]] := St.call (A := []) (R := [_, _, _, _, _, _, _]) S S_; clear S_
                      refine RunT.end ?_
                      refine RunT.one ?_
                      refine Run.move rfl E rfl rfl rfl ?_; clear E a; intro a E
                      refine RunT.end ?_
                      refine RunT.one ?_
                      refine Run.extract rfl E rfl rfl rfl rfl ?_; clear E a; intro a E
                      refine RunT.end ?_
                      refine RunT.one ?_
                      refine Run.extract rfl E rfl rfl rfl rfl ?_; clear E a; intro a E
                      refine RunT.end ?_
                      refine RunT.one ?_
                      refine Run.extract rfl E rfl rfl rfl rfl ?_; clear E a; intro a E
                      refine RunT.end ?_
                      refine RunT.one ?_
                      refine Run.store (news := [.int .i64 t.kind, .int .i64 t.node, .int .i64 t.phase, .int .i64 t.pos, .int .i64 t.start, .int .i64 t.depth, .int .i64 t.org, .slice D108 t.caps.length e109]) (cs' := [_, _, _, _, _, _, _, _]) (hp' := [_, _, _, _, _, _, _, _]) 1 rfl E S rfl rfl rfl rfl rfl sz34 rfl rfl rfl rfl ?_; clear S; intro w S
                      refine RunT.end ?_
                      refine RunT.one ?_
                      refine Run.assign rfl E rfl rfl rfl ?_; clear E a; intro a E
                      refine RunT.end ?_
                      refine RunT.one ?_
                      refine Run.assign rfl E rfl rfl rfl ?_; clear E a; intro a E
                      refine RunT.end ?_
                      refine RunT.done ?_
                      refine then_n ?_
                      have S : St _ _ _ [_, _, _, _, _, _, _, _] := S.sel [2, 1, 0, 3, 4, 5, 6, 7] _ rfl rfl
                      have S := S.drop1
                      exact ⟨b103, D108, e109, E.keeps [(4, _), (5, _), (8, _), (9, _), (11, _), (12, _), (13, _), (14, _)] ⟨rfl, rfl, rfl, rfl, rfl, rfl, rfl, rfl, trivial⟩, S⟩
                    · skip
                      exact RunT.none
                · skip
                  refine RunT.altl ?_ ?_
                  · skip
                    refine Run.appendRd (news := u8s (rec18 s t)) (nm := (hd ++ rec18 s t).length) 0 rfl E S rfl rfl rfl rfl rfl Try.underlying22 I5 rfl rfl (S.rd 3 rfl) (u8s_one _) (by simp only [List.length_append]) (by simp only [List.length_append] at *; omega) (by simp only [List.length_append] at *; omega) ?_; clear E a S; intro A110 c111 w a E S
                    rw [u8s_append] at S
                    replace S : St _ _ _ [_, .obj _ _ [_, _, _, _, _, _, _, _], _, _, .obj _ _ [_, _, _, _, _, _, _, _], .obj _ _ [_, _, _, _, _, _, _, _]] := S
                    refine RunT.end ?_
                    refine RunT.alt ?_ ?_
                    · skip
                      refine Run.loadN (cs := [.int .i64 s.kind, .int .i64 s.node, .int .i64 s.phase, .int .i64 s.pos, .int .i64 s.start, .int .i64 s.depth, .int .i64 s.org, .slice C s.caps.length d]) rfl rfl E S rfl rfl rfl ag34 rfl (fun _ s => objAll s 5 rfl) ?_; clear E a; intro a E
                      refine RunT.end ?_
                      refine RunT.altl ?_ ?_
                      · skip
                        refine Run.appendRd (news := u8s tl) (nm := (hd ++ rec18 s t ++ tl).length) 0 rfl E S rfl rfl rfl rfl rfl Try.underlying22 I5 rfl rfl (H4.bel S.belT) (u8s_one _) (by simp only [List.length_append]) (by simp only [List.length_append] at *; omega) (by simp only [List.length_append] at *; omega) ?_; clear E a S; intro A112 c113 w a E S
                        rw [u8s_append] at S
                        replace S : St _ _ _ [_, .obj _ _ [_, _, _, _, _, _, _, _], _, _, .obj _ _ [_, _, _, _, _, _, _, _], .obj _ _ [_, _, _, _, _, _, _, _]] := S
                        refine RunT.end ?_
                        refine RunT.alt ?_ ?_
                        · skip
                          refine Run.call (args := [.agg #[.int .i64 s.kind, .int .i64 s.node, .int .i64 s.phase, .int .i64 s.pos, .int .i64 s.start, .int .i64 s.depth, .int .i64 s.org, .slice C s.caps.length d], .slice A112 ((hd ++ rec18 s t ++ tl).length) c113, .int .i64 (hd.length : Int)]) rfl rfl E rfl rfl Try.func66 nm66 rfl rfl (read_ok (t := t) (b := hd ++ rec18 s t ++ tl) (S.rd 0 rfl) hbB (by simp only [List.length_append]; omega) (H2.bel S.belT) hB (Int.natCast_nonneg _) hat (base_len hB) hrd hR) ?_; rintro e_ w ⟨D114, e115, rfl, S_⟩; refine ⟨_, rfl, (fun _ => S_.belT), ?_⟩; clear E a; intro a E
                          replace S : St _ _ _ [_, _, .obj _ _ [_, _, _, _, _, _, _, _], _, _, .obj _ _ [_, _, _, _, _, _, _, _], .obj _ _ [_, _, _, _, _, _, _, _]] := St.call (A := []) (R := [_, _, _, _, _, _]) S S_; clear S_
                          refine RunT.end ?_
                          refine RunT.one ?_
                          refine Run.move rfl E rfl rfl rfl ?_; clear E a; intro a E
                          refine RunT.end ?_
                          refine RunT.one ?_
                          refine Run.extract rfl E rfl rfl rfl rfl ?_; clear E a; intro a E
                          refine RunT.end ?_
                          refine RunT.one ?_
                          refine Run.extract rfl E rfl rfl rfl rfl ?_; clear E a; intro a E
                          refine RunT.end ?_
                          refine RunT.one ?_
                          refine Run.extract rfl E rfl rfl rfl rfl ?_; clear E a; intro a E
                          refine RunT.end ?_
                          refine RunT.one ?_
                          refine Run.alloc rfl rfl E S rfl rfl z34 rfl ?_; clear E a S; intro b116 w a E S B_; clear B_
                          refine RunT.end ?_
                          refine RunT.one ?_
                          refine Run.store (news := [.int .i64 t.kind, .int .i64 t.node, .int .i64 t.phase, .int .i64 t.pos, .int .i64 t.start, .int .i64 t.depth, .int .i64 t.org, .slice D114 t.caps.length e115]) (cs' := [_, _, _, _, _, _, _, _]) (hp' := [_, _, _, _, _, _, _, _]) 0 rfl E S rfl rfl rfl rfl rfl sz34 rfl rfl rfl rfl ?_; clear S; intro w S
                          refine RunT.end ?_
                          refine RunT.one ?_
                          refine Run.assign rfl E rfl rfl rfl ?_; clear E a; intro a E
                          refine RunT.end ?_
                          refine RunT.one ?_
                          refine Run.assign rfl E rfl rfl rfl ?_; clear E a; intro a E
                          refine RunT.end ?_
                          refine RunT.done ?_
                          refine then_n ?_
                          have S : St _ _ _ [_, _, _, _, _, _, _, _] := S.sel [2, 0, 1, 3, 4, 5, 6, 7] _ rfl rfl
                          have S := S.drop1
                          exact ⟨b116, D114, e115, E.keeps [(4, _), (5, _), (8, _), (9, _), (11, _), (12, _), (13, _), (14, _)] ⟨rfl, rfl, rfl, rfl, rfl, rfl, rfl, rfl, trivial⟩, S⟩
                        · skip
                          refine RunT.alt ?_ ?_
                          · skip
                            refine Run.alloc rfl rfl E S rfl rfl z34 rfl ?_; clear E a S; intro b117 w a E S B_; clear B_
                            refine RunT.end ?_
                            refine RunT.one ?_
                            refine Run.call (args := [.agg #[.int .i64 s.kind, .int .i64 s.node, .int .i64 s.phase, .int .i64 s.pos, .int .i64 s.start, .int .i64 s.depth, .int .i64 s.org, .slice C s.caps.length d], .slice A112 ((hd ++ rec18 s t ++ tl).length) c113, .int .i64 (hd.length : Int)]) rfl rfl E rfl rfl Try.func66 nm66 rfl rfl (read_ok (t := t) (b := hd ++ rec18 s t ++ tl) (S.rd 1 rfl) hbB (by simp only [List.length_append]; omega) (H2.bel S.belT) hB (Int.natCast_nonneg _) hat (base_len hB) hrd hR) ?_; rintro e_ w ⟨D118, e119, rfl, S_⟩; refine ⟨_, rfl, (fun _ => S_.belT), ?_⟩; clear E a; intro a E
                            replace S : St _ _ _ [_, .obj _ _ [_, _, _, _, _, _, _, _], _, .obj _ _ [_, _, _, _, _, _, _, _], _, _, .obj _ _ [_, _, _, _, _, _, _, _], .obj _ _ [_, _, _, _, _, _, _, _]] := St.call (A := []) (R := [_, _, _, _, _, _, _]) S S_; clear S_
                            refine RunT.end ?_
                            refine RunT.one ?_
                            refine Run.move rfl E rfl rfl rfl ?_; clear E a; intro a E
                            refine RunT.end ?_
                            refine RunT.one ?_
                            refine Run.extract rfl E rfl rfl rfl rfl ?_; clear E a; intro a E
                            refine RunT.end ?_
                            refine RunT.one ?_
                            refine Run.extract rfl E rfl rfl rfl rfl ?_; clear E a; intro a E
                            refine RunT.end ?_
                            refine RunT.one ?_
                            refine Run.extract rfl E rfl rfl rfl rfl ?_; clear E a; intro a E
                            refine RunT.end ?_
                            refine RunT.one ?_
                            refine Run.store (news := [.int .i64 t.kind, .int .i64 t.node, .int .i64 t.phase, .int .i64 t.pos, .int .i64 t.start, .int .i64 t.depth, .int .i64 t.org, .slice D118 t.caps.length e119]) (cs' := [_, _, _, _, _, _, _, _]) (hp' := [_, _, _, _, _, _, _, _]) 1 rfl E S rfl rfl rfl rfl rfl sz34 rfl rfl rfl rfl ?_; clear S; intro w S
                            refine RunT.end ?_
                            refine RunT.one ?_
                            refine Run.assign rfl E rfl rfl rfl ?_; clear E a; intro a E
                            refine RunT.end ?_
                            refine RunT.one ?_
                            refine Run.assign rfl E rfl rfl rfl ?_; clear E a; intro a E
                            refine RunT.end ?_
                            refine RunT.done ?_
                            refine then_n ?_
                            have S : St _ _ _ [_, _, _, _, _, _, _, _] := S.sel [2, 1, 0, 3, 4, 5, 6, 7] _ rfl rfl
                            have S := S.drop1
                            exact ⟨b117, D118, e119, E.keeps [(4, _), (5, _), (8, _), (9, _), (11, _), (12, _), (13, _), (14, _)] ⟨rfl, rfl, rfl, rfl, rfl, rfl, rfl, rfl, trivial⟩, S⟩
                          · skip
                            exact RunT.none
                      · skip
                        refine RunT.alt ?_ ?_
                        · skip
                          refine Run.alloc rfl rfl E S rfl rfl z34 rfl ?_; clear E a S; intro b120 w a E S B_; clear B_
                          refine RunT.end ?_
                          refine RunT.one ?_
                          refine Run.appendRd (news := u8s tl) (nm := (hd ++ rec18 s t ++ tl).length) 1 rfl E S rfl rfl rfl rfl rfl Try.underlying22 I5 rfl rfl (H4.bel S.belT) (u8s_one _) (by simp only [List.length_append]) (by simp only [List.length_append] at *; omega) (by simp only [List.length_append] at *; omega) ?_; clear E a S; intro A121 c122 w a E S
                          rw [u8s_append] at S
                          replace S : St _ _ _ [.obj _ _ [_, _, _, _, _, _, _, _], _, .obj _ _ [_, _, _, _, _, _, _, _], _, _, .obj _ _ [_, _, _, _, _, _, _, _], .obj _ _ [_, _, _, _, _, _, _, _]] := S
                          refine RunT.end ?_
                          refine RunT.one ?_
                          refine Run.call (args := [.agg #[.int .i64 s.kind, .int .i64 s.node, .int .i64 s.phase, .int .i64 s.pos, .int .i64 s.start, .int .i64 s.depth, .int .i64 s.org, .slice C s.caps.length d], .slice A121 ((hd ++ rec18 s t ++ tl).length) c122, .int .i64 (hd.length : Int)]) rfl rfl E rfl rfl Try.func66 nm66 rfl rfl (read_ok (t := t) (b := hd ++ rec18 s t ++ tl) (S.rd 1 rfl) hbB (by simp only [List.length_append]; omega) (H2.bel S.belT) hB (Int.natCast_nonneg _) hat (base_len hB) hrd hR) ?_; rintro e_ w ⟨D123, e124, rfl, S_⟩; refine ⟨_, rfl, (fun _ => S_.belT), ?_⟩; clear E a; intro a E
                          replace S : St _ _ _ [_, .obj _ _ [_, _, _, _, _, _, _, _], _, .obj _ _ [_, _, _, _, _, _, _, _], _, _, .obj _ _ [_, _, _, _, _, _, _, _], .obj _ _ [_, _, _, _, _, _, _, _]] := St.call (A := []) (R := [_, _, _, _, _, _, _]) S S_; clear S_
                          refine RunT.end ?_
                          refine RunT.one ?_
                          refine Run.move rfl E rfl rfl rfl ?_; clear E a; intro a E
                          refine RunT.end ?_
                          refine RunT.one ?_
                          refine Run.extract rfl E rfl rfl rfl rfl ?_; clear E a; intro a E
                          refine RunT.end ?_
                          refine RunT.one ?_
                          refine Run.extract rfl E rfl rfl rfl rfl ?_; clear E a; intro a E
                          refine RunT.end ?_
                          refine RunT.one ?_
                          refine Run.extract rfl E rfl rfl rfl rfl ?_; clear E a; intro a E
                          refine RunT.end ?_
                          refine RunT.one ?_
                          refine Run.store (news := [.int .i64 t.kind, .int .i64 t.node, .int .i64 t.phase, .int .i64 t.pos, .int .i64 t.start, .int .i64 t.depth, .int .i64 t.org, .slice D123 t.caps.length e124]) (cs' := [_, _, _, _, _, _, _, _]) (hp' := [_, _, _, _, _, _, _, _]) 1 rfl E S rfl rfl rfl rfl rfl sz34 rfl rfl rfl rfl ?_; clear S; intro w S
                          refine RunT.end ?_
                          refine RunT.one ?_
                          refine Run.assign rfl E rfl rfl rfl ?_; clear E a; intro a E
                          refine RunT.end ?_
                          refine RunT.one ?_
                          refine Run.assign rfl E rfl rfl rfl ?_; clear E a; intro a E
                          refine RunT.end ?_
                          refine RunT.done ?_
                          refine then_n ?_
                          have S : St _ _ _ [_, _, _, _, _, _, _, _] := S.sel [2, 1, 0, 3, 4, 5, 6, 7] _ rfl rfl
                          have S := S.drop1
                          exact ⟨b120, D123, e124, E.keeps [(4, _), (5, _), (8, _), (9, _), (11, _), (12, _), (13, _), (14, _)] ⟨rfl, rfl, rfl, rfl, rfl, rfl, rfl, rfl, trivial⟩, S⟩
                        · skip
                          exact RunT.none
                    · skip
                      refine RunT.altl ?_ ?_
                      · skip
                        refine Run.appendRd (news := u8s tl) (nm := (hd ++ rec18 s t ++ tl).length) 0 rfl E S rfl rfl rfl rfl rfl Try.underlying22 I5 rfl rfl (H4.bel S.belT) (u8s_one _) (by simp only [List.length_append]) (by simp only [List.length_append] at *; omega) (by simp only [List.length_append] at *; omega) ?_; clear E a S; intro A125 c126 w a E S
                        rw [u8s_append] at S
                        replace S : St _ _ _ [_, .obj _ _ [_, _, _, _, _, _, _, _], _, _, .obj _ _ [_, _, _, _, _, _, _, _], .obj _ _ [_, _, _, _, _, _, _, _]] := S
                        refine RunT.end ?_
                        refine RunT.one ?_
                        refine Run.loadN (cs := [.int .i64 s.kind, .int .i64 s.node, .int .i64 s.phase, .int .i64 s.pos, .int .i64 s.start, .int .i64 s.depth, .int .i64 s.org, .slice C s.caps.length d]) rfl rfl E S rfl rfl rfl ag34 rfl (fun _ s => objAll s 5 rfl) ?_; clear E a; intro a E
                        refine RunT.end ?_
                        refine RunT.alt ?_ ?_
                        · skip
                          refine Run.call (args := [.agg #[.int .i64 s.kind, .int .i64 s.node, .int .i64 s.phase, .int .i64 s.pos, .int .i64 s.start, .int .i64 s.depth, .int .i64 s.org, .slice C s.caps.length d], .slice A125 ((hd ++ rec18 s t ++ tl).length) c126, .int .i64 (hd.length : Int)]) rfl rfl E rfl rfl Try.func66 nm66 rfl rfl (read_ok (t := t) (b := hd ++ rec18 s t ++ tl) (S.rd 0 rfl) hbB (by simp only [List.length_append]; omega) (H2.bel S.belT) hB (Int.natCast_nonneg _) hat (base_len hB) hrd hR) ?_; rintro e_ w ⟨D127, e128, rfl, S_⟩; refine ⟨_, rfl, (fun _ => S_.belT), ?_⟩; clear E a; intro a E
                          replace S : St _ _ _ [_, _, .obj _ _ [_, _, _, _, _, _, _, _], _, _, .obj _ _ [_, _, _, _, _, _, _, _], .obj _ _ [_, _, _, _, _, _, _, _]] := St.call (A := []) (R := [_, _, _, _, _, _]) S S_; clear S_
                          refine RunT.end ?_
                          refine RunT.one ?_
                          refine Run.move rfl E rfl rfl rfl ?_; clear E a; intro a E
                          refine RunT.end ?_
                          refine RunT.one ?_
                          refine Run.extract rfl E rfl rfl rfl rfl ?_; clear E a; intro a E
                          refine RunT.end ?_
                          refine RunT.one ?_
                          refine Run.extract rfl E rfl rfl rfl rfl ?_; clear E a; intro a E
                          refine RunT.end ?_
                          refine RunT.one ?_
                          refine Run.extract rfl E rfl rfl rfl rfl ?_; clear E a; intro a E
                          refine RunT.end ?_
                          refine RunT.one ?_
                          refine Run.alloc rfl rfl E S rfl rfl z34 rfl ?_; clear E a S; intro b129 w a E S B_; clear B_
                          refine RunT.end ?_
                          refine RunT.one ?_
                          refine Run.store (news := [.int .i64 t.kind, .int .i64 t.node, .int .i64 t.phase, .int .i64 t.pos, .int .i64 t.start, .int .i64 t.depth, .int .i64 t.org, .slice D127 t.caps.length e128]) (cs' := [_, _, _, _, _, _, _, _]) (hp' := [_, _, _, _, _, _, _, _]) 0 rfl E S rfl rfl rfl rfl rfl sz34 rfl rfl rfl rfl ?_; clear S; intro w S
                          refine RunT.end ?_
                          refine RunT.one ?_
                          refine Run.assign rfl E rfl rfl rfl ?_; clear E a; intro a E
                          refine RunT.end ?_
                          refine RunT.one ?_
                          refine Run.assign rfl E rfl rfl rfl ?_; clear E a; intro a E
                          refine RunT.end ?_
                          refine RunT.done ?_
                          refine then_n ?_
                          have S : St _ _ _ [_, _, _, _, _, _, _, _] := S.sel [2, 0, 1, 3, 4, 5, 6, 7] _ rfl rfl
                          have S := S.drop1
                          exact ⟨b129, D127, e128, E.keeps [(4, _), (5, _), (8, _), (9, _), (11, _), (12, _), (13, _), (14, _)] ⟨rfl, rfl, rfl, rfl, rfl, rfl, rfl, rfl, trivial⟩, S⟩
                        · skip
                          refine RunT.alt ?_ ?_
                          · skip
                            refine Run.alloc rfl rfl E S rfl rfl z34 rfl ?_; clear E a S; intro b130 w a E S B_; clear B_
                            refine RunT.end ?_
                            refine RunT.one ?_
                            refine Run.call (args := [.agg #[.int .i64 s.kind, .int .i64 s.node, .int .i64 s.phase, .int .i64 s.pos, .int .i64 s.start, .int .i64 s.depth, .int .i64 s.org, .slice C s.caps.length d], .slice A125 ((hd ++ rec18 s t ++ tl).length) c126, .int .i64 (hd.length : Int)]) rfl rfl E rfl rfl Try.func66 nm66 rfl rfl (read_ok (t := t) (b := hd ++ rec18 s t ++ tl) (S.rd 1 rfl) hbB (by simp only [List.length_append]; omega) (H2.bel S.belT) hB (Int.natCast_nonneg _) hat (base_len hB) hrd hR) ?_; rintro e_ w ⟨D131, e132, rfl, S_⟩; refine ⟨_, rfl, (fun _ => S_.belT), ?_⟩; clear E a; intro a E
                            replace S : St _ _ _ [_, .obj _ _ [_, _, _, _, _, _, _, _], _, .obj _ _ [_, _, _, _, _, _, _, _], _, _, .obj _ _ [_, _, _, _, _, _, _, _], .obj _ _ [_, _, _, _, _, _, _, _]] := St.call (A := []) (R := [_, _, _, _, _, _, _]) S S_; clear S_
                            refine RunT.end ?_
                            refine RunT.one ?_
                            refine Run.move rfl E rfl rfl rfl ?_; clear E a; intro a E
                            refine RunT.end ?_
                            refine RunT.one ?_
                            refine Run.extract rfl E rfl rfl rfl rfl ?_; clear E a; intro a E
                            refine RunT.end ?_
                            refine RunT.one ?_
                            refine Run.extract rfl E rfl rfl rfl rfl ?_; clear E a; intro a E
                            refine RunT.end ?_
                            refine RunT.one ?_
                            refine Run.extract rfl E rfl rfl rfl rfl ?_; clear E a; intro a E
                            refine RunT.end ?_
                            refine RunT.one ?_
                            refine Run.store (news := [.int .i64 t.kind, .int .i64 t.node, .int .i64 t.phase, .int .i64 t.pos, .int .i64 t.start, .int .i64 t.depth, .int .i64 t.org, .slice D131 t.caps.length e132]) (cs' := [_, _, _, _, _, _, _, _]) (hp' := [_, _, _, _, _, _, _, _]) 1 rfl E S rfl rfl rfl rfl rfl sz34 rfl rfl rfl rfl ?_; clear S; intro w S
                            refine RunT.end ?_
                            refine RunT.one ?_
                            refine Run.assign rfl E rfl rfl rfl ?_; clear E a; intro a E
                            refine RunT.end ?_
                            refine RunT.one ?_
                            refine Run.assign rfl E rfl rfl rfl ?_; clear E a; intro a E
                            refine RunT.end ?_
                            refine RunT.done ?_
                            refine then_n ?_
                            have S : St _ _ _ [_, _, _, _, _, _, _, _] := S.sel [2, 1, 0, 3, 4, 5, 6, 7] _ rfl rfl
                            have S := S.drop1
                            exact ⟨b130, D131, e132, E.keeps [(4, _), (5, _), (8, _), (9, _), (11, _), (12, _), (13, _), (14, _)] ⟨rfl, rfl, rfl, rfl, rfl, rfl, rfl, rfl, trivial⟩, S⟩
                          · skip
                            exact RunT.none
                      · skip
                        refine RunT.alt ?_ ?_
                        · skip
                          refine Run.alloc rfl rfl E S rfl rfl z34 rfl ?_; clear E a S; intro b133 w a E S B_; clear B_
                          refine RunT.end ?_
                          refine RunT.alt ?_ ?_
                          · skip
                            refine Run.loadN (cs := [.int .i64 s.kind, .int .i64 s.node, .int .i64 s.phase, .int .i64 s.pos, .int .i64 s.start, .int .i64 s.depth, .int .i64 s.org, .slice C s.caps.length d]) rfl rfl E S rfl rfl rfl ag34 rfl (fun _ s => objAll s 6 rfl) ?_; clear E a; intro a E
                            refine RunT.end ?_
                            refine RunT.one ?_
                            refine Run.appendRd (news := u8s tl) (nm := (hd ++ rec18 s t ++ tl).length) 1 rfl E S rfl rfl rfl rfl rfl Try.underlying22 I5 rfl rfl (H4.bel S.belT) (u8s_one _) (by simp only [List.length_append]) (by simp only [List.length_append] at *; omega) (by simp only [List.length_append] at *; omega) ?_; clear E a S; intro A134 c135 w a E S
                            rw [u8s_append] at S
                            replace S : St _ _ _ [.obj _ _ [_, _, _, _, _, _, _, _], _, .obj _ _ [_, _, _, _, _, _, _, _], _, _, .obj _ _ [_, _, _, _, _, _, _, _], .obj _ _ [_, _, _, _, _, _, _, _]] := S
                            refine RunT.end ?_
                            refine RunT.one ?_
                            refine Run.call (args := [.agg #[.int .i64 s.kind, .int .i64 s.node, .int .i64 s.phase, .int .i64 s.pos, .int .i64 s.start, .int .i64 s.depth, .int .i64 s.org, .slice C s.caps.length d], .slice A134 ((hd ++ rec18 s t ++ tl).length) c135, .int .i64 (hd.length : Int)]) rfl rfl E rfl rfl Try.func66 nm66 rfl rfl (read_ok (t := t) (b := hd ++ rec18 s t ++ tl) (S.rd 1 rfl) hbB (by simp only [List.length_append]; omega) (H2.bel S.belT) hB (Int.natCast_nonneg _) hat (base_len hB) hrd hR) ?_; rintro e_ w ⟨D136, e137, rfl, S_⟩; refine ⟨_, rfl, (fun _ => S_.belT), ?_⟩; clear E a; intro a E
                            replace S : St _ _ _ [_, .obj _ _ [_, _, _, _, _, _, _, _], _, .obj _ _ [_, _, _, _, _, _, _, _], _, _, .obj _ _ [_, _, _, _, _, _, _, _], .obj _ _ [_, _, _, _, _, _, _, _]] := St.call (A := []) (R := [_, _, _, _, _, _, _]) S S_; clear S_
                            refine RunT.end ?_
                            refine RunT.one ?_
                            refine Run.move rfl E rfl rfl rfl ?_; clear E a; intro a E
                            refine RunT.end ?_
                            refine RunT.one ?_
                            refine Run.extract rfl E rfl rfl rfl rfl ?_; clear E a; intro a E
                            refine RunT.end ?_
                            refine RunT.one ?_
                            refine Run.extract rfl E rfl rfl rfl rfl ?_; clear E a; intro a E
                            refine RunT.end ?_
                            refine RunT.one ?_
                            refine Run.extract rfl E rfl rfl rfl rfl ?_; clear E a; intro a E
                            refine RunT.end ?_
                            refine RunT.one ?_
                            refine Run.store (news := [.int .i64 t.kind, .int .i64 t.node, .int .i64 t.phase, .int .i64 t.pos, .int .i64 t.start, .int .i64 t.depth, .int .i64 t.org, .slice D136 t.caps.length e137]) (cs' := [_, _, _, _, _, _, _, _]) (hp' := [_, _, _, _, _, _, _, _]) 1 rfl E S rfl rfl rfl rfl rfl sz34 rfl rfl rfl rfl ?_; clear S; intro w S
                            refine RunT.end ?_
                            refine RunT.one ?_
                            refine Run.assign rfl E rfl rfl rfl ?_; clear E a; intro a E
                            refine RunT.end ?_
                            refine RunT.one ?_
                            refine Run.assign rfl E rfl rfl rfl ?_; clear E a; intro a E
                            refine RunT.end ?_
                            refine RunT.done ?_
                            refine then_n ?_
                            have S : St _ _ _ [_, _, _, _, _, _, _, _] := S.sel [2, 1, 0, 3, 4, 5, 6, 7] _ rfl rfl
                            have S := S.drop1
                            exact ⟨b133, D136, e137, E.keeps [(4, _), (5, _), (8, _), (9, _), (11, _), (12, _), (13, _), (14, _)] ⟨rfl, rfl, rfl, rfl, rfl, rfl, rfl, rfl, trivial⟩, S⟩
                          · skip
                            refine RunT.altl ?_ ?_
                            · skip
                              refine Run.appendRd (news := u8s tl) (nm := (hd ++ rec18 s t ++ tl).length) 1 rfl E S rfl rfl rfl rfl rfl Try.underlying22 I5 rfl rfl (H4.bel S.belT) (u8s_one _) (by simp only [List.length_append]) (by simp only [List.length_append] at *; omega) (by simp only [List.length_append] at *; omega) ?_; clear E a S; intro A138 c139 w a E S
                              rw [u8s_append] at S
                              replace S : St _ _ _ [.obj _ _ [_, _, _, _, _, _, _, _], _, .obj _ _ [_, _, _, _, _, _, _, _], _, _, .obj _ _ [_, _, _, _, _, _, _, _], .obj _ _ [_, _, _, _, _, _, _, _]] := S
                              refine RunT.end ?_
                              refine RunT.one ?_
                              refine Run.loadN (cs := [.int .i64 s.kind, .int .i64 s.node, .int .i64 s.phase, .int .i64 s.pos, .int .i64 s.start, .int .i64 s.depth, .int .i64 s.org, .slice C s.caps.length d]) rfl rfl E S rfl rfl rfl ag34 rfl (fun _ s => objAll s 6 rfl) ?_; clear E a; intro a E
                              refine RunT.end ?_
                              refine RunT.one ?_
                              refine Run.call (args := [.agg #[.int .i64 s.kind, .int .i64 s.node, .int .i64 s.phase, .int .i64 s.pos, .int .i64 s.start, .int .i64 s.depth, .int .i64 s.org, .slice C s.caps.length d], .slice A138 ((hd ++ rec18 s t ++ tl).length) c139, .int .i64 (hd.length : Int)]) rfl rfl E rfl rfl Try.func66 nm66 rfl rfl (read_ok (t := t) (b := hd ++ rec18 s t ++ tl) (S.rd 1 rfl) hbB (by simp only [List.length_append]; omega) (H2.bel S.belT) hB (Int.natCast_nonneg _) hat (base_len hB) hrd hR) ?_; rintro e_ w ⟨D140, e141, rfl, S_⟩; refine ⟨_, rfl, (fun _ => S_.belT), ?_⟩; clear E a; intro a E
                              replace S : St _ _ _ [_, .obj _ _ [_, _, _, _, _, _, _, _], _, .obj _ _ [_, _, _, _, _, _, _, _], _, _, .obj _ _ [_, _, _, _, _, _, _, _], .obj _ _ [_, _, _, _, _, _, _, _]] := St.call (A := []) (R := [_, _, _, _, _, _, _]) S S_; clear S_
                              refine RunT.end ?_
                              refine RunT.one ?_
                              refine Run.move rfl E rfl rfl rfl ?_; clear E a; intro a E
                              refine RunT.end ?_
                              refine RunT.one ?_
                              refine Run.extract rfl E rfl rfl rfl rfl ?_; clear E a; intro a E
                              refine RunT.end ?_
                              refine RunT.one ?_
                              refine Run.extract rfl E rfl rfl rfl rfl ?_; clear E a; intro a E
                              refine RunT.end ?_
                              refine RunT.one ?_
                              refine Run.extract rfl E rfl rfl rfl rfl ?_; clear E a; intro a E
                              refine RunT.end ?_
                              refine RunT.one ?_
                              refine Run.store (news := [.int .i64 t.kind, .int .i64 t.node, .int .i64 t.phase, .int .i64 t.pos, .int .i64 t.start, .int .i64 t.depth, .int .i64 t.org, .slice D140 t.caps.length e141]) (cs' := [_, _, _, _, _, _, _, _]) (hp' := [_, _, _, _, _, _, _, _]) 1 rfl E S rfl rfl rfl rfl rfl sz34 rfl rfl rfl rfl ?_; clear S; intro w S
                              refine RunT.end ?_
                              refine RunT.one ?_
                              refine Run.assign rfl E rfl rfl rfl ?_; clear E a; intro a E
                              refine RunT.end ?_
                              refine RunT.one ?_
                              refine Run.assign rfl E rfl rfl rfl ?_; clear E a; intro a E
                              refine RunT.end ?_
                              refine RunT.done ?_
                              refine then_n ?_
                              have S : St _ _ _ [_, _, _, _, _, _, _, _] := S.sel [2, 1, 0, 3, 4, 5, 6, 7] _ rfl rfl
                              have S := S.drop1
                              exact ⟨b133, D140, e141, E.keeps [(4, _), (5, _), (8, _), (9, _), (11, _), (12, _), (13, _), (14, _)] ⟨rfl, rfl, rfl, rfl, rfl, rfl, rfl, rfl, trivial⟩, S⟩
                            · skip
                              exact RunT.none
                        · skip
                          exact RunT.none
                  · skip
                    refine RunT.alt ?_ ?_
                    · skip
                      refine Run.alloc rfl rfl E S rfl rfl z34 rfl ?_; clear E a S; intro b142 w a E S B_; clear B_
                      refine RunT.end ?_
                      refine RunT.alt ?_ ?_
                      · skip
                        refine Run.loadN (cs := [.int .i64 s.kind, .int .i64 s.node, .int .i64 s.phase, .int .i64 s.pos, .int .i64 s.start, .int .i64 s.depth, .int .i64 s.org, .slice C s.caps.length d]) rfl rfl E S rfl rfl rfl ag34 rfl (fun _ s => objAll s 6 rfl) ?_; clear E a; intro a E
                        refine RunT.end ?_
                        refine RunT.one ?_
                        refine Run.appendRd (news := u8s (rec18 s t)) (nm := (hd ++ rec18 s t).length) 1 rfl E S rfl rfl rfl rfl rfl Try.underlying22 I5 rfl rfl (S.rd 4 rfl) (u8s_one _) (by simp only [List.length_append]) (by simp only [List.length_append] at *; omega) (by simp only [List.length_append] at *; omega) ?_; clear E a S; intro A143 c144 w a E S
                        rw [u8s_append] at S
                        replace S : St _ _ _ [.obj _ _ [_, _, _, _, _, _, _, _], _, .obj _ _ [_, _, _, _, _, _, _, _], _, _, .obj _ _ [_, _, _, _, _, _, _, _], .obj _ _ [_, _, _, _, _, _, _, _]] := S
                        refine RunT.end ?_
                        refine RunT.one ?_
                        refine Run.appendRd (news := u8s tl) (nm := (hd ++ rec18 s t ++ tl).length) 1 rfl E S rfl rfl rfl rfl rfl Try.underlying22 I5 rfl rfl (H4.bel S.belT) (u8s_one _) (by simp only [List.length_append]) (by simp only [List.length_append] at *; omega) (by simp only [List.length_append] at *; omega) ?_; clear E a S; intro A145 c146 w a E S
                        rw [u8s_append] at S
                        replace S : St _ _ _ [.obj _ _ [_, _, _, _, _, _, _, _], _, .obj _ _ [_, _, _, _, _, _, _, _], _, _, .obj _ _ [_, _, _, _, _, _, _, _], .obj _ _ [_, _, _, _, _, _, _, _]] := S
                        refine RunT.end ?_
                        refine RunT.one ?_
                        refine Run.call (args := [.agg #[.int .i64 s.kind, .int .i64 s.node, .int .i64 s.phase, .int .i64 s.pos, .int .i64 s.start, .int .i64 s.depth, .int .i64 s.org, .slice C s.caps.length d], .slice A145 ((hd ++ rec18 s t ++ tl).length) c146, .int .i64 (hd.length : Int)]) rfl rfl E rfl rfl Try.func66 nm66 rfl rfl (read_ok (t := t) (b := hd ++ rec18 s t ++ tl) (S.rd 1 rfl) hbB (by simp only [List.length_append]; omega) (H2.bel S.belT) hB (Int.natCast_nonneg _) hat (base_len hB) hrd hR) ?_; rintro e_ w ⟨D147, e148, rfl, S_⟩; refine ⟨_, rfl, (fun _ => S_.belT), ?_⟩; clear E a; intro a E
                        replace S : St _ _ _ [_, .obj _ _ [_, _, _, _, _, _, _, _], _, .obj _ _ [_, _, _, _, _, _, _, _], _, _, .obj _ _ [_, _, _, _, _, _, _, _], .obj _ _ [_, _, _, _, _, _, _, _]] := St.call (A := []) (R := [_, _, _, _, _, _, _]) S S_; clear S_
                        refine RunT.end ?_
                        refine RunT.one ?_
                        refine Run.move rfl E rfl rfl rfl ?_; clear E a; intro a E
                        refine RunT.end ?_
                        refine RunT.one ?_
                        refine Run.extract rfl E rfl rfl rfl rfl ?_; clear E a; intro a E
                        refine RunT.end ?_
                        refine RunT.one ?_
                        refine Run.extract rfl E rfl rfl rfl rfl ?_; clear E a; intro a E
                        refine RunT.end ?_
                        refine RunT.one ?_
                        refine Run.extract rfl E rfl rfl rfl rfl ?_; clear E a; intro a E
                        refine RunT.end ?_
                        refine RunT.one ?_
                        refine Run.store (news := [.int .i64 t.kind, .int .i64 t.node, .int .i64 t.phase, .int .i64 t.pos, .int .i64 t.start, .int .i64 t.depth, .int .i64 t.org, .slice D147 t.caps.length e148]) (cs' := [_, _, _, _, _, _, _, _]) (hp' := [_, _, _, _, _, _, _, _]) 1 rfl E S rfl rfl rfl rfl rfl sz34 rfl rfl rfl rfl ?_; clear S; intro w S
                        refine RunT.end ?_
                        refine RunT.one ?_
                        refine Run.assign rfl E rfl rfl rfl ?_; clear E a; intro a E
                        refine RunT.end ?_
                        refine RunT.one ?_
                        refine Run.assign rfl E rfl rfl rfl ?_; clear E a; intro a E
                        refine RunT.end ?_
                        refine RunT.done ?_
                        refine then_n ?_
                        have S : St _ _ _ [_, _, _, _, _, _, _, _] := S.sel [2, 1, 0, 3, 4, 5, 6, 7] _ rfl rfl
                        have S := S.drop1
                        exact ⟨b142, D147, e148, E.keeps [(4, _), (5, _), (8, _), (9, _), (11, _), (12, _), (13, _), (14, _)] ⟨rfl, rfl, rfl, rfl, rfl, rfl, rfl, rfl, trivial⟩, S⟩
                      · skip
                        refine RunT.altl ?_ ?_
                        · skip
                          refine Run.appendRd (news := u8s (rec18 s t)) (nm := (hd ++ rec18 s t).length) 1 rfl E S rfl rfl rfl rfl rfl Try.underlying22 I5 rfl rfl (S.rd 4 rfl) (u8s_one _) (by simp only [List.length_append]) (by simp only [List.length_append] at *; omega) (by simp only [List.length_append] at *; omega) ?_; clear E a S; intro A149 c150 w a E S
                          rw [u8s_append] at S
                          replace S : St _ _ _ [.obj _ _ [_, _, _, _, _, _, _, _], _, .obj _ _ [_, _, _, _, _, _, _, _], _, _, .obj _ _ [_, _, _, _, _, _, _, _], .obj _ _ [_, _, _, _, _, _, _, _]] := S
                          refine RunT.end ?_
                          refine RunT.alt ?_ ?_
                          · skip
                            refine Run.loadN (cs := [.int .i64 s.kind, .int .i64 s.node, .int .i64 s.phase, .int .i64 s.pos, .int .i64 s.start, .int .i64 s.depth, .int .i64 s.org, .slice C s.caps.length d]) rfl rfl E S rfl rfl rfl ag34 rfl (fun _ s => objAll s 6 rfl) ?_; clear E a; intro a E
                            refine RunT.end ?_
                            refine RunT.one ?_
                            refine Run.appendRd (news := u8s tl) (nm := (hd ++ rec18 s t ++ tl).length) 1 rfl E S rfl rfl rfl rfl rfl Try.underlying22 I5 rfl rfl (H4.bel S.belT) (u8s_one _) (by simp only [List.length_append]) (by simp only [List.length_append] at *; omega) (by simp only [List.length_append] at *; omega) ?_; clear E a S; intro A151 c152 w a E S
                            rw [u8s_append] at S
                            replace S : St _ _ _ [.obj _ _ [_, _, _, _, _, _, _, _], _, .obj _ _ [_, _, _, _, _, _, _, _], _, _, .obj _ _ [_, _, _, _, _, _, _, _], .obj _ _ [_, _, _, _, _, _, _, _]] := S
                            refine RunT.end ?_
                            refine RunT.one ?_
                            refine Run.call (args := [.agg #[.int .i64 s.kind, .int .i64 s.node, .int .i64 s.phase, .int .i64 s.pos, .int .i64 s.start, .int .i64 s.depth, .int .i64 s.org, .slice C s.caps.length d], .slice A151 ((hd ++ rec18 s t ++ tl).length) c152, .int .i64 (hd.length : Int)]) rfl rfl E rfl rfl Try.func66 nm66 rfl rfl (read_ok (t := t) (b := hd ++ rec18 s t ++ tl) (S.rd 1 rfl) hbB (by simp only [List.length_append]; omega) (H2.bel S.belT) hB (Int.natCast_nonneg _) hat (base_len hB) hrd hR) ?_; rintro e_ w ⟨D153, e154, rfl, S_⟩; refine ⟨_, rfl, (fun _ => S_.belT), ?_⟩; clear E a; intro a E
                            replace S : St _ _ _ [_, .obj _ _ [_, _, _, _, _, _, _, _], _, .obj _ _ [_, _, _, _, _, _, _, _], _, _, .obj _ _ [_, _, _, _, _, _, _, _], .obj _ _ [_, _, _, _, _, _, _, _]] := St.call (A := []) (R := [_, _, _, _, _, _, _]) S S_; clear S_
                            refine RunT.end ?_
                            refine RunT.one ?_
                            refine Run.move rfl E rfl rfl rfl ?_; clear E a; intro a E
                            refine RunT.end ?_
                            refine RunT.one ?_
                            refine Run.extract rfl E rfl rfl rfl rfl ?_; clear E a; intro a E
                            refine RunT.end ?_
                            refine RunT.one ?_
                            refine Run.extract rfl E rfl rfl rfl rfl ?_; clear E a; intro a E
                            refine RunT.end ?_
                            refine RunT.one ?_
                            refine Run.extract rfl E rfl rfl rfl rfl ?_; clear E a; intro a E
                            refine RunT.end ?_
                            refine RunT.one ?_
                            refine Run.store (news := [.int .i64 t.kind, .int .i64 t.node, .int .i64 t.phase, .int .i64 t.pos, .int .i64 t.start, .int .i64 t.depth, .int .i64 t.org, .slice D153 t.caps.length e154]) (cs' := [_, _, _, _, _, _, _, _]) (hp' := [_, _, _, _, _, _, _, _]) 1 rfl E S rfl rfl rfl rfl rfl sz34 rfl rfl rfl rfl ?_; clear S; intro w S
                            refine RunT.end ?_
                            refine RunT.one ?_
                            refine Run.assign rfl E rfl rfl rfl ?_; clear E a; intro a E
                            refine RunT.end ?_
                            refine RunT.one ?_
                            refine Run.assign rfl E rfl rfl rfl ?_; clear E a; intro a E
                            refine RunT.end ?_
                            refine RunT.done ?_
                            refine then_n ?_
                            have S : St _ _ _ [_, _, _, _, _, _, _, _] := S.sel [2, 1, 0, 3, 4, 5, 6, 7] _ rfl rfl
                            have S := S.drop1
                            exact ⟨b142, D153, e154, E.keeps [(4, _), (5, _), (8, _), (9, _), (11, _), (12, _), (13, _), (14, _)] ⟨rfl, rfl, rfl, rfl, rfl, rfl, rfl, rfl, trivial⟩, S⟩
                          · skip
                            refine RunT.altl ?_ ?_
                            · skip
                              refine Run.appendRd (news := u8s tl) (nm := (hd ++ rec18 s t ++ tl).length) 1 rfl E S rfl rfl rfl rfl rfl Try.underlying22 I5 rfl rfl (H4.bel S.belT) (u8s_one _) (by simp only [List.length_append]) (by simp only [List.length_append] at *; omega) (by simp only [List.length_append] at *; omega) ?_; clear E a S; intro A155 c156 w a E S
                              rw [u8s_append] at S
                              replace S : St _ _ _ [.obj _ _ [_, _, _, _, _, _, _, _], _, .obj _ _ [_, _, _, _, _, _, _, _], _, _, .obj _ _ [_, _, _, _, _, _, _, _], .obj _ _ [_, _, _, _, _, _, _, _]] := S
                              refine RunT.end ?_
                              refine RunT.one ?_
                              refine Run.loadN (cs := [.int .i64 s.kind, .int .i64 s.node, .int .i64 s.phase, .int .i64 s.pos, .int .i64 s.start, .int .i64 s.depth, .int .i64 s.org, .slice C s.caps.length d]) rfl rfl E S rfl rfl rfl ag34 rfl (fun _ s => objAll s 6 rfl) ?_; clear E a; intro a E
                              refine RunT.end ?_
                              refine RunT.one ?_
                              refine Run.call (args := [.agg #[.int .i64 s.kind, .int .i64 s.node, .int .i64 s.phase, .int .i64 s.pos, .int .i64 s.start, .int .i64 s.depth, .int .i64 s.org, .slice C s.caps.length d], .slice A155 ((hd ++ rec18 s t ++ tl).length) c156, .int .i64 (hd.length : Int)]) rfl rfl E rfl rfl Try.func66 nm66 rfl rfl (read_ok (t := t) (b := hd ++ rec18 s t ++ tl) (S.rd 1 rfl) hbB (by simp only [List.length_append]; omega) (H2.bel S.belT) hB (Int.natCast_nonneg _) hat (base_len hB) hrd hR) ?_; rintro e_ w ⟨D157, e158, rfl, S_⟩; refine ⟨_, rfl, (fun _ => S_.belT), ?_⟩; clear E a; intro a E
                              replace S : St _ _ _ [_, .obj _ _ [_, _, _, _, _, _, _, _], _, .obj _ _ [_, _, _, _, _, _, _, _], _, _, .obj _ _ [_, _, _, _, _, _, _, _], .obj _ _ [_, _, _, _, _, _, _, _]] := St.call (A := []) (R := [_, _, _, _, _, _, _]) S S_; clear S_
                              refine RunT.end ?_
                              refine RunT.one ?_
                              refine Run.move rfl E rfl rfl rfl ?_; clear E a; intro a E
                              refine RunT.end ?_
                              refine RunT.one ?_
                              refine Run.extract rfl E rfl rfl rfl rfl ?_; clear E a; intro a E
                              refine RunT.end ?_
                              refine RunT.one ?_
                              refine Run.extract rfl E rfl rfl rfl rfl ?_; clear E a; intro a E
                              refine RunT.end ?_
                              refine RunT.one ?_
                              refine Run.extract rfl E rfl rfl rfl rfl ?_; clear E a; intro a E
                              refine RunT.end ?_
                              refine RunT.one ?_
                              refine Run.store (news := [.int .i64 t.kind, .int .i64 t.node, .int .i64 t.phase, .int .i64 t.pos, .int .i64 t.start, .int .i64 t.depth, .int .i64 t.org, .slice D157 t.caps.length e158]) (cs' := [_, _, _, _, _, _, _, _]) (hp' := [_, _, _, _, _, _, _, _]) 1 rfl E S rfl rfl rfl rfl rfl sz34 rfl rfl rfl rfl ?_; clear S; intro w S
                              refine RunT.end ?_
                              refine RunT.one ?_
                              refine Run.assign rfl E rfl rfl rfl ?_; clear E a; intro a E
                              refine RunT.end ?_
                              refine RunT.one ?_
                              refine Run.assign rfl E rfl rfl rfl ?_; clear E a; intro a E
                              refine RunT.end ?_
                              refine RunT.done ?_
                              refine then_n ?_
                              have S : St _ _ _ [_, _, _, _, _, _, _, _] := S.sel [2, 1, 0, 3, 4, 5, 6, 7] _ rfl rfl
                              have S := S.drop1
                              exact ⟨b142, D157, e158, E.keeps [(4, _), (5, _), (8, _), (9, _), (11, _), (12, _), (13, _), (14, _)] ⟨rfl, rfl, rfl, rfl, rfl, rfl, rfl, rfl, trivial⟩, S⟩
                            · skip
                              exact RunT.none
                        · skip
                          exact RunT.none
                    · skip
                      exact RunT.none
              · skip
                refine RunT.alt ?_ ?_
                · skip
                  refine Run.alloc rfl rfl E S rfl rfl z34 rfl ?_; clear E a S; intro b159 w a E S B_; clear B_
                  refine RunT.end ?_
                  refine RunT.alt ?_ ?_
                  · skip
                    refine Run.loadN (cs := [.int .i64 s.kind, .int .i64 s.node, .int .i64 s.phase, .int .i64 s.pos, .int .i64 s.start, .int .i64 s.depth, .int .i64 s.org, .slice C s.caps.length d]) rfl rfl E S rfl rfl rfl ag34 rfl (fun _ s => objAll s 6 rfl) ?_; clear E a; intro a E
                    refine RunT.end ?_
                    refine RunT.one ?_
                    replace S : St _ _ _ [_, _, _, _, _, _, _] := S.objRow (sz := 1) (n := 0) 1 rfl rfl (Nat.zero_le _) rfl
                    refine Run.appendRd (news := u8s hd) (nm := hd.length) 1 rfl E S rfl rfl rfl rfl rfl Try.underlying22 I5 rfl rfl (H1.bel S.belT) (u8s_one _) (by simp) (by simp only [List.length_append] at *; omega) (by simp only [List.length_append] at *; omega) ?_; clear E a S; intro A160 c161 w a E S
                    replace S : St _ _ _ [.obj _ _ [_, _, _, _, _, _, _, _], _, .obj _ _ [_, _, _, _, _, _, _, _], _, _, .obj _ _ [_, _, _, _, _, _, _, _], .obj _ _ [_, _, _, _, _, _, _, _]] := S
                    replace S : St _ _ _ [_, .row (.slice A160 hd.length c161) 5 1 hd.length (u8s hd), _, _, _, _, _] := S
                    refine RunT.end ?_
                    refine RunT.one ?_
                    refine Run.appendRd (news := u8s (rec18 s t)) (nm := (hd ++ rec18 s t).length) 1 rfl E S rfl rfl rfl rfl rfl Try.underlying22 I5 rfl rfl (S.rd 4 rfl) (u8s_one _) (by simp only [List.length_append]) (by simp only [List.length_append] at *; omega) (by simp only [List.length_append] at *; omega) ?_; clear E a S; intro A162 c163 w a E S
                    rw [u8s_append] at S
                    replace S : St _ _ _ [.obj _ _ [_, _, _, _, _, _, _, _], _, .obj _ _ [_, _, _, _, _, _, _, _], _, _, .obj _ _ [_, _, _, _, _, _, _, _], .obj _ _ [_, _, _, _, _, _, _, _]] := S
                    refine RunT.end ?_
                    refine RunT.one ?_
                    refine Run.appendRd (news := u8s tl) (nm := (hd ++ rec18 s t ++ tl).length) 1 rfl E S rfl rfl rfl rfl rfl Try.underlying22 I5 rfl rfl (H4.bel S.belT) (u8s_one _) (by simp only [List.length_append]) (by simp only [List.length_append] at *; omega) (by simp only [List.length_append] at *; omega) ?_; clear E a S; intro A164 c165 w a E S
                    rw [u8s_append] at S
                    replace S : St _ _ _ [.obj _ _ [_, _, _, _, _, _, _, _], _, .obj _ _ [_, _, _, _, _, _, _, _], _, _, .obj _ _ [_, _, _, _, _, _, _, _], .obj _ _ [_, _, _, _, _, _, _, _]] := S
                    refine RunT.end ?_
                    refine RunT.one ?_
                    refine Run.call (args := [.agg #[.int .i64 s.kind, .int .i64 s.node, .int .i64 s.phase, .int .i64 s.pos, .int .i64 s.start, .int .i64 s.depth, .int .i64 s.org, .slice C s.caps.length d], .slice A164 ((hd ++ rec18 s t ++ tl).length) c165, .int .i64 (hd.length : Int)]) rfl rfl E rfl rfl Try.func66 nm66 rfl rfl (read_ok (t := t) (b := hd ++ rec18 s t ++ tl) (S.rd 1 rfl) hbB (by simp only [List.length_append]; omega) (H2.bel S.belT) hB (Int.natCast_nonneg _) hat (base_len hB) hrd hR) ?_; rintro e_ w ⟨D166, e167, rfl, S_⟩; refine ⟨_, rfl, (fun _ => S_.belT), ?_⟩; clear E a; intro a E
                    replace S : St _ _ _ [_, .obj _ _ [_, _, _, _, _, _, _, _], _, .obj _ _ [_, _, _, _, _, _, _, _], _, _, .obj _ _ [_, _, _, _, _, _, _, _], .obj _ _ [_, _, _, _, _, _, _, _]] := St.call (A := []) (R := [_, _, _, _, _, _, _]) S S_; clear S_
                    refine RunT.end ?_
                    refine RunT.one ?_
                    refine Run.move rfl E rfl rfl rfl ?_; clear E a; intro a E
                    refine RunT.end ?_
                    refine RunT.one ?_
                    refine Run.extract rfl E rfl rfl rfl rfl ?_; clear E a; intro a E
                    refine RunT.end ?_
                    refine RunT.one ?_
                    refine Run.extract rfl E rfl rfl rfl rfl ?_; clear E a; intro a E
                    refine RunT.end ?_
                    refine RunT.one ?_
                    refine Run.extract rfl E rfl rfl rfl rfl ?_; clear E a; intro a E
                    refine RunT.end ?_
                    refine RunT.one ?_
                    refine Run.store (news := [.int .i64 t.kind, .int .i64 t.node, .int .i64 t.phase, .int .i64 t.pos, .int .i64 t.start, .int .i64 t.depth, .int .i64 t.org, .slice D166 t.caps.length e167]) (cs' := [_, _, _, _, _, _, _, _]) (hp' := [_, _, _, _, _, _, _, _]) 1 rfl E S rfl rfl rfl rfl rfl sz34 rfl rfl rfl rfl ?_; clear S; intro w S
                    refine RunT.end ?_
                    refine RunT.one ?_
                    refine Run.assign rfl E rfl rfl rfl ?_; clear E a; intro a E
                    refine RunT.end ?_
                    refine RunT.one ?_
                    refine Run.assign rfl E rfl rfl rfl ?_; clear E a; intro a E
                    refine RunT.end ?_
                    refine RunT.done ?_
                    refine then_n ?_
                    have S : St _ _ _ [_, _, _, _, _, _, _, _] := S.sel [2, 1, 0, 3, 4, 5, 6, 7] _ rfl rfl
                    have S := S.drop1
                    exact ⟨b159, D166, e167, E.keeps [(4, _), (5, _), (8, _), (9, _), (11, _), (12, _), (13, _), (14, _)] ⟨rfl, rfl, rfl, rfl, rfl, rfl, rfl, rfl, trivial⟩, S⟩
                  · skip
                    refine RunT.altl ?_ ?_
                    · skip
                      replace S : St _ _ _ [_, _, _, _, _, _, _] := S.objRow (sz := 1) (n := 0) 1 rfl rfl (Nat.zero_le _) rfl
                      refine Run.appendRd (news := u8s hd) (nm := hd.length) 1 rfl E S rfl rfl rfl rfl rfl Try.underlying22 I5 rfl rfl (H1.bel S.belT) (u8s_one _) (by simp) (by simp only [List.length_append] at *; omega) (by simp only [List.length_append] at *; omega) ?_; clear E a S; intro A168 c169 w a E S
                      replace S : St _ _ _ [.obj _ _ [_, _, _, _, _, _, _, _], _, .obj _ _ [_, _, _, _, _, _, _, _], _, _, .obj _ _ [_, _, _, _, _, _, _, _], .obj _ _ [_, _, _, _, _, _, _, _]] := S
                      replace S : St _ _ _ [_, .row (.slice A168 hd.length c169) 5 1 hd.length (u8s hd), _, _, _, _, _] := S
                      refine RunT.end ?_
                      refine RunT.alt ?_ ?_
                      · skip
                        refine Run.loadN (cs := [.int .i64 s.kind, .int .i64 s.node, .int .i64 s.phase, .int .i64 s.pos, .int .i64 s.start, .int .i64 s.depth, .int .i64 s.org, .slice C s.caps.length d]) rfl rfl E S rfl rfl rfl ag34 rfl (fun _ s => objAll s 6 rfl) ?_; clear E a; intro a E
                        refine RunT.end ?_
                        refine RunT.one ?_
                        refine Run.appendRd (news := u8s (rec18 s t)) (nm := (hd ++ rec18 s t).length) 1 rfl E S rfl rfl rfl rfl rfl Try.underlying22 I5 rfl rfl (S.rd 4 rfl) (u8s_one _) (by simp only [List.length_append]) (by simp only [List.length_append] at *; omega) (by simp only [List.length_append] at *; omega) ?_; clear E a S; intro A170 c171 w a E S
                        rw [u8s_append] at S
                        replace S : St _ _ _ [.obj _ _ [_, _, _, _, _, _, _, _], _, .obj _ _ [_, _, _, _, _, _, _, _], _, _, .obj _ _ [_, _, _, _, _, _, _, _], .obj _ _ [_, _, _, _, _, _, _, _]] := S
                        refine RunT.end ?_
                        refine RunT.one ?_
                        refine Run.appendRd (news := u8s tl) (nm := (hd ++ rec18 s t ++ tl).length) 1 rfl E S rfl rfl rfl rfl rfl Try.underlying22 I5 rfl rfl (H4.bel S.belT) (u8s_one _) (by simp only [List.length_append]) (by simp only [List.length_append] at *; omega) (by simp only [List.length_append] at *; omega) ?_; clear E a S; intro A172 c173 w a E S
                        rw [u8s_append] at S
                        replace S : St _ _ _ [.obj _ _ [_, _, _, _, _, _, _, _], _, .obj _ _ [_, _, _, _, _, _, _, _], _, _, .obj _ _ [_, _, _, _, _, _, _, _], .obj _ _ [_, _, _, _, _, _, _, _]] := S
                        refine RunT.end ?_
                        refine RunT.one ?_
                        refine Run.call (args := [.agg #[.int .i64 s.kind, .int .i64 s.node, .int .i64 s.phase, .int .i64 s.pos, .int .i64 s.start, .int .i64 s.depth, .int .i64 s.org, .slice C s.caps.length d], .slice A172 ((hd ++ rec18 s t ++ tl).length) c173, .int .i64 (hd.length : Int)]) rfl rfl E rfl rfl Try.func66 nm66 rfl rfl (read_ok (t := t) (b := hd ++ rec18 s t ++ tl) (S.rd 1 rfl) hbB (by simp only [List.length_append]; omega) (H2.bel S.belT) hB (Int.natCast_nonneg _) hat (base_len hB) hrd hR) ?_; rintro e_ w ⟨D174, e175, rfl, S_⟩; refine ⟨_, rfl, (fun _ => S_.belT), ?_⟩; clear E a; intro a E
                        replace S : St _ _ _ [_, .obj _ _ [_, _, _, _, _, _, _, _], _, .obj _ _ [_, _, _, _, _, _, _, _], _, _, .obj _ _ [_, _, _, _, _, _, _, _], .obj _ _ [_, _, _, _, _, _, _, _]] := St.call (A := []) (R := [_, _, _, _, _, _, _]) S S_; clear S_
                        refine RunT.end ?_
                        refine RunT.one ?_
                        refine Run.move rfl E rfl rfl rfl ?_; clear E a; intro a E
                        refine RunT.end ?_
                        refine RunT.one ?_
                        refine Run.extract rfl E rfl rfl rfl rfl ?_; clear E a; intro a E
                        refine RunT.end ?_
                        refine RunT.one ?_
                        refine Run.extract rfl E rfl rfl rfl rfl ?_; clear E a; intro a E
                        refine RunT.end ?_
                        refine RunT.one ?_
                        refine Run.extract rfl E rfl rfl rfl rfl ?_; clear E a; intro a E
                        refine RunT.end ?_
                        refine RunT.one ?_
                        refine Run.store (news := [.int .i64 t.kind, .int .i64 t.node, .int .i64 t.phase, .int .i64 t.pos, .int .i64 t.start, .int .i64 t.depth, .int .i64 t.org, .slice D174 t.caps.length e175]) (cs' := [_, _, _, _, _, _, _, _]) (hp' := [_, _, _, _, _, _, _, _]) 1 rfl E S rfl rfl rfl rfl rfl sz34 rfl rfl rfl rfl ?_; clear S; intro w S
                        refine RunT.end ?_
                        refine RunT.one ?_
                        refine Run.assign rfl E rfl rfl rfl ?_; clear E a; intro a E
                        refine RunT.end ?_
                        refine RunT.one ?_
                        refine Run.assign rfl E rfl rfl rfl ?_; clear E a; intro a E
                        refine RunT.end ?_
                        refine RunT.done ?_
                        refine then_n ?_
                        have S : St _ _ _ [_, _, _, _, _, _, _, _] := S.sel [2, 1, 0, 3, 4, 5, 6, 7] _ rfl rfl
                        have S := S.drop1
                        exact ⟨b159, D174, e175, E.keeps [(4, _), (5, _), (8, _), (9, _), (11, _), (12, _), (13, _), (14, _)] ⟨rfl, rfl, rfl, rfl, rfl, rfl, rfl, rfl, trivial⟩, S⟩
                      · skip
                        refine RunT.altl ?_ ?_
                        · skip
                          refine Run.appendRd (news := u8s (rec18 s t)) (nm := (hd ++ rec18 s t).length) 1 rfl E S rfl rfl rfl rfl rfl Try.underlying22 I5 rfl rfl (S.rd 4 rfl) (u8s_one _) (by simp only [List.length_append]) (by simp only [List.length_append] at *; omega) (by simp only [List.length_append] at *; omega) ?_; clear E a S; intro A176 c177 w a E S
                          rw [u8s_append] at S
                          replace S : St _ _ _ [.obj _ _ [_, _, _, _, _, _, _, _], _, .obj _ _ [_, _, _, _, _, _, _, _], _, _, .obj _ _ [_, _, _, _, _, _, _, _], .obj _ _ [_, _, _, _, _, _, _, _]] := S
                          refine RunT.end ?_
                          refine RunT.alt ?_ ?_
                          · skip
                            refine Run.loadN (cs := [.int .i64 s.kind, .int .i64 s.node, .int .i64 s.phase, .int .i64 s.pos, .int .i64 s.start, .int .i64 s.depth, .int .i64 s.org, .slice C s.caps.length d]) rfl rfl E S rfl rfl rfl ag34 rfl (fun _ s => objAll s 6 rfl) ?_; clear E a; intro a E
                            refine RunT.end ?_
                            refine RunT.one ?_
                            refine Run.appendRd (news := u8s tl) (nm := (hd ++ rec18 s t ++ tl).length) 1 rfl E S rfl rfl rfl rfl rfl Try.underlying22 I5 rfl rfl (H4.bel S.belT) (u8s_one _) (by simp only [List.length_append]) (by simp only [List.length_append] at *; omega) (by simp only [List.length_append] at *; omega) ?_; clear E a S; intro A178 c179 w a E S
                            rw [u8s_append] at S
                            replace S : St _ _ _ [.obj _ _ [_, _, _, _, _, _, _, _], _, .obj _ _ [_, _, _, _, _, _, _, _], _, _, .obj _ _ [_, _, _, _, _, _, _, _], .obj _ _ [_, _, _, _, _, _, _, _]] := S
                            refine RunT.end ?_
                            refine RunT.one ?_
                            refine Run.call (args := [.agg #[.int .i64 s.kind, .int .i64 s.node, .int .i64 s.phase, .int .i64 s.pos, .int .i64 s.start, .int .i64 s.depth, .int .i64 s.org, .slice C s.caps.length d], .slice A178 ((hd ++ rec18 s t ++ tl).length) c179, .int .i64 (hd.length : Int)]) rfl rfl E rfl rfl Try.func66 nm66 rfl rfl (read_ok (t := t) (b := hd ++ rec18 s t ++ tl) (S.rd 1 rfl) hbB (by simp only [List.length_append]; omega) (H2.bel S.belT) hB (Int.natCast_nonneg _) hat (base_len hB) hrd hR) ?_; rintro e_ w ⟨D180, e181, rfl, S_⟩; refine ⟨_, rfl, (fun _ => S_.belT), ?_⟩; clear E a; intro a E
                            replace S : St _ _ _ [_, .obj _ _ [_, _, _, _, _, _, _, _], _, .obj _ _ [_, _, _, _, _, _, _, _], _, _, .obj _ _ [_, _, _, _, _, _, _, _], .obj _ _ [_, _, _, _, _, _, _, _]] := St.call (A := []) (R := [_, _, _, _, _, _, _]) S S_; clear S_
                            refine RunT.end ?_
                            refine RunT.one ?_
                            refine Run.move rfl E rfl rfl rfl ?_; clear E a; intro a E
                            refine RunT.end ?_
                            refine RunT.one ?_
                            refine Run.extract rfl E rfl rfl rfl rfl ?_; clear E a; intro a E
                            refine RunT.end ?_
                            refine RunT.one ?_
                            refine Run.extract rfl E rfl rfl rfl rfl ?_; clear E a; intro a E
                            refine RunT.end ?_
                            refine RunT.one ?_
                            refine Run.extract rfl E rfl rfl rfl rfl ?_; clear E a; intro a E
                            refine RunT.end ?_
                            refine RunT.one ?_
                            refine Run.store (news := [.int .i64 t.kind, .int .i64 t.node, .int .i64 t.phase, .int .i64 t.pos, .int .i64 t.start, .int .i64 t.depth, .int .i64 t.org, .slice D180 t.caps.length e181]) (cs' := [_, _, _, _, _, _, _, _]) (hp' := [_, _, _, _, _, _, _, _]) 1 rfl E S rfl rfl rfl rfl rfl sz34 rfl rfl rfl rfl ?_; clear S; intro w S
                            refine RunT.end ?_
                            refine RunT.one ?_
                            refine Run.assign rfl E rfl rfl rfl ?_; clear E a; intro a E
                            refine RunT.end ?_
                            refine RunT.one ?_
                            refine Run.assign rfl E rfl rfl rfl ?_; clear E a; intro a E
                            refine RunT.end ?_
                            refine RunT.done ?_
                            refine then_n ?_
                            have S : St _ _ _ [_, _, _, _, _, _, _, _] := S.sel [2, 1, 0, 3, 4, 5, 6, 7] _ rfl rfl
                            have S := S.drop1
                            exact ⟨b159, D180, e181, E.keeps [(4, _), (5, _), (8, _), (9, _), (11, _), (12, _), (13, _), (14, _)] ⟨rfl, rfl, rfl, rfl, rfl, rfl, rfl, rfl, trivial⟩, S⟩
                          · skip
                            refine RunT.altl ?_ ?_
                            · skip
                              refine Run.appendRd (news := u8s tl) (nm := (hd ++ rec18 s t ++ tl).length) 1 rfl E S rfl rfl rfl rfl rfl Try.underlying22 I5 rfl rfl (H4.bel S.belT) (u8s_one _) (by simp only [List.length_append]) (by simp only [List.length_append] at *; omega) (by simp only [List.length_append] at *; omega) ?_; clear E a S; intro A182 c183 w a E S
                              rw [u8s_append] at S
                              replace S : St _ _ _ [.obj _ _ [_, _, _, _, _, _, _, _], _, .obj _ _ [_, _, _, _, _, _, _, _], _, _, .obj _ _ [_, _, _, _, _, _, _, _], .obj _ _ [_, _, _, _, _, _, _, _]] := S
                              refine RunT.end ?_
                              refine RunT.one ?_
                              refine Run.loadN (cs := [.int .i64 s.kind, .int .i64 s.node, .int .i64 s.phase, .int .i64 s.pos, .int .i64 s.start, .int .i64 s.depth, .int .i64 s.org, .slice C s.caps.length d]) rfl rfl E S rfl rfl rfl ag34 rfl (fun _ s => objAll s 6 rfl) ?_; clear E a; intro a E
                              refine RunT.end ?_
                              refine RunT.one ?_
                              refine Run.call (args := [.agg #[.int .i64 s.kind, .int .i64 s.node, .int .i64 s.phase, .int .i64 s.pos, .int .i64 s.start, .int .i64 s.depth, .int .i64 s.org, .slice C s.caps.length d], .slice A182 ((hd ++ rec18 s t ++ tl).length) c183, .int .i64 (hd.length : Int)]) rfl rfl E rfl rfl Try.func66 nm66 rfl rfl (read_ok (t := t) (b := hd ++ rec18 s t ++ tl) (S.rd 1 rfl) hbB (by simp only [List.length_append]; omega) (H2.bel S.belT) hB (Int.natCast_nonneg _) hat (base_len hB) hrd hR) ?_; rintro e_ w ⟨D184, e185, rfl, S_⟩; refine ⟨_, rfl, (fun _ => S_.belT), ?_⟩; clear E a; intro a E
                              replace S : St _ _ _ [_, .obj _ _ [_, _, _, _, _, _, _, _], _, .obj _ _ [_, _, _, _, _, _, _, _], _, _, .obj _ _ [_, _, _, _, _, _, _, _], .obj _ _ [_, _, _, _, _, _, _, _]] := St.call (A := []) (R := [_, _, _, _, _, _, _]) S S_; clear S_
                              refine RunT.end ?_
                              refine RunT.one ?_
                              refine Run.move rfl E rfl rfl rfl ?_; clear E a; intro a E
                              refine RunT.end ?_
                              refine RunT.one ?_
                              refine Run.extract rfl E rfl rfl rfl rfl ?_; clear E a; intro a E
                              refine RunT.end ?_
                              refine RunT.one ?_
                              refine Run.extract rfl E rfl rfl rfl rfl ?_; clear E a; intro a E
                              refine RunT.end ?_
                              refine RunT.one ?_
                              refine Run.extract rfl E rfl rfl rfl rfl ?_; clear E a; intro a E
                              refine RunT.end ?_
                              refine RunT.one ?_
                              refine Run.store (news := [.int .i64 t.kind, .int .i64 t.node, .int .i64 t.phase, .int .i64 t.pos, .int .i64 t.start, .int .i64 t.depth, .int .i64 t.org, .slice D184 t.caps.length e185]) (cs' := [_, _, _, _, _, _, _, _]) (hp' := [_, _, _, _, _, _, _, _]) 1 rfl E S rfl rfl rfl rfl rfl sz34 rfl rfl rfl rfl ?_; clear S; intro w S
                              refine RunT.end ?_
                              refine RunT.one ?_
                              refine Run.assign rfl E rfl rfl rfl ?_; clear E a; intro a E
                              refine RunT.end ?_
                              refine RunT.one ?_
                              refine Run.assign rfl E rfl rfl rfl ?_; clear E a; intro a E
                              refine RunT.end ?_
                              refine RunT.done ?_
                              refine then_n ?_
                              have S : St _ _ _ [_, _, _, _, _, _, _, _] := S.sel [2, 1, 0, 3, 4, 5, 6, 7] _ rfl rfl
                              have S := S.drop1
                              exact ⟨b159, D184, e185, E.keeps [(4, _), (5, _), (8, _), (9, _), (11, _), (12, _), (13, _), (14, _)] ⟨rfl, rfl, rfl, rfl, rfl, rfl, rfl, rfl, trivial⟩, S⟩
                            · skip
                              exact RunT.none
                        · skip
                          exact RunT.none
                    · skip
                      exact RunT.none
                · skip
                  exact RunT.none
          · skip
            refine RunT.alt ?_ ?_
            · skip
              refine Run.alloc rfl rfl E S rfl rfl z34 rfl ?_; clear E a S; intro b186 w a E S B_; clear B_
              refine RunT.end ?_
              refine RunT.alt ?_ ?_
              · skip
                refine Run.loadN (cs := [.int .i64 s.kind, .int .i64 s.node, .int .i64 s.phase, .int .i64 s.pos, .int .i64 s.start, .int .i64 s.depth, .int .i64 s.org, .slice C s.caps.length d]) rfl rfl E S rfl rfl rfl ag34 rfl (fun _ s => objAll s 5 rfl) ?_; clear E a; intro a E
                refine RunT.end ?_
                refine RunT.one ?_
                refine Run.buildSlice (cs := []) [] rfl rfl E S rfl rfl rfl Try.underlying22 (by kernel_rfl) ?_; clear E a S; intro b187 w a E S B_; clear B_
                refine RunT.end ?_
                refine RunT.one ?_
                replace S : St _ _ _ [_, _, _, _, _, _, _] := S.objRow (sz := 1) (n := 0) 0 rfl rfl (Nat.zero_le _) rfl
                refine Run.appendRd (news := u8s hd) (nm := hd.length) 0 rfl E S rfl rfl rfl rfl rfl Try.underlying22 I5 rfl rfl (H1.bel S.belT) (u8s_one _) (by simp) (by simp only [List.length_append] at *; omega) (by simp only [List.length_append] at *; omega) ?_; clear E a S; intro A188 c189 w a E S
                replace S : St _ _ _ [_, .obj _ _ [_, _, _, _, _, _, _, _], .obj _ _ [_, _, _, _, _, _, _, _], _, _, .obj _ _ [_, _, _, _, _, _, _, _], .obj _ _ [_, _, _, _, _, _, _, _]] := S
                replace S : St _ _ _ [.row (.slice A188 hd.length c189) 5 1 hd.length (u8s hd), _, _, _, _, _, _] := S
                refine RunT.end ?_
                refine RunT.one ?_
                refine Run.appendRd (news := u8s (rec18 s t)) (nm := (hd ++ rec18 s t).length) 0 rfl E S rfl rfl rfl rfl rfl Try.underlying22 I5 rfl rfl (S.rd 4 rfl) (u8s_one _) (by simp only [List.length_append]) (by simp only [List.length_append] at *; omega) (by simp only [List.length_append] at *; omega) ?_; clear E a S; intro A190 c191 w a E S
                rw [u8s_append] at S
                replace S : St _ _ _ [_, .obj _ _ [_, _, _, _, _, _, _, _], .obj _ _ [_, _, _, _, _, _, _, _], _, _, .obj _ _ [_, _, _, _, _, _, _, _], .obj _ _ [_, _, _, _, _, _, _, _]] := S
                refine RunT.end ?_
                refine RunT.one ?_
                refine Run.appendRd (news := u8s tl) (nm := (hd ++ rec18 s t ++ tl).length) 0 rfl E S rfl rfl rfl rfl rfl Try.underlying22 I5 rfl rfl (H4.bel S.belT) (u8s_one _) (by simp only [List.length_append]) (by simp only [List.length_append] at *; omega) (by simp only [List.length_append] at *; omega) ?_; clear E a S; intro A192 c193 w a E S
                rw [u8s_append] at S
                replace S : St _ _ _ [_, .obj _ _ [_, _, _, _, _, _, _, _], .obj _ _ [_, _, _, _, _, _, _, _], _, _, .obj _ _ [_, _, _, _, _, _, _, _], .obj _ _ [_, _, _, _, _, _, _, _]] := S
                refine RunT.end ?_
                refine RunT.one ?_
                refine Run.call (args := [.agg #[.int .i64 s.kind, .int .i64 s.node, .int .i64 s.phase, .int .i64 s.pos, .int .i64 s.start, .int .i64 s.depth, .int .i64 s.org, .slice C s.caps.length d], .slice A192 ((hd ++ rec18 s t ++ tl).length) c193, .int .i64 (hd.length : Int)]) rfl rfl E rfl rfl Try.func66 nm66 rfl rfl (read_ok (t := t) (b := hd ++ rec18 s t ++ tl) (S.rd 0 rfl) hbB (by simp only [List.length_append]; omega) (H2.bel S.belT) hB (Int.natCast_nonneg _) hat (base_len hB) hrd hR) ?_; rintro e_ w ⟨D194, e195, rfl, S_⟩; refine ⟨_, rfl, (fun _ => S_.belT), ?_⟩; clear E a; intro a E
                replace S : St _ _ _ [_, _, .obj _ _ [_, _, _, _, _, _, _, _], .obj _ _ [_, _, _, _, _, _, _, _], _, _, .obj _ _ [_, _, _, _, _, _, _, _], .obj _ _ [_, _, _, _, _, _, _, _]] := St.call (A := []) (R := [_, _, _, _, _, _, _]) S S_; clear S_
                refine RunT.end ?_
                refine RunT.one ?_
                refine Run.move rfl E rfl rfl rfl ?_; clear E a; intro a E
                refine RunT.end ?_
                refine RunT.one ?_
                refine Run.extract rfl E rfl rfl rfl rfl ?_; clear E a; intro a E
                refine RunT.end ?_
                refine RunT.one ?_
                refine Run.extract rfl E rfl rfl rfl rfl ?_; clear E a; intro a E
                refine RunT.end ?_
                refine RunT.one ?_
                refine Run.extract rfl E rfl rfl rfl rfl ?_; clear E a; intro a E
                refine RunT.end ?_
                refine RunT.one ?_
                refine Run.store (news := [.int .i64 t.kind, .int .i64 t.node, .int .i64 t.phase, .int .i64 t.pos, .int .i64 t.start, .int .i64 t.depth, .int .i64 t.org, .slice D194 t.caps.length e195]) (cs' := [_, _, _, _, _, _, _, _]) (hp' := [_, _, _, _, _, _, _, _]) 2 rfl E S rfl rfl rfl rfl rfl sz34 rfl rfl rfl rfl ?_; clear S; intro w S
                refine RunT.end ?_
                refine RunT.one ?_
                refine Run.assign rfl E rfl rfl rfl ?_; clear E a; intro a E
                refine RunT.end ?_
                refine RunT.one ?_
                refine Run.assign rfl E rfl rfl rfl ?_; clear E a; intro a E
                refine RunT.end ?_
                refine RunT.done ?_
                refine then_n ?_
                have S : St _ _ _ [_, _, _, _, _, _, _, _] := S.sel [1, 2, 0, 3, 4, 5, 6, 7] _ rfl rfl
                have S := S.drop1
                exact ⟨b186, D194, e195, E.keeps [(4, _), (5, _), (8, _), (9, _), (11, _), (12, _), (13, _), (14, _)] ⟨rfl, rfl, rfl, rfl, rfl, rfl, rfl, rfl, trivial⟩, S⟩
              · skip
                refine RunT.alt ?_ ?_
                · skip
                  refine Run.buildSlice (cs := []) [] rfl rfl E S rfl rfl rfl Try.underlying22 (by kernel_rfl) ?_; clear E a S; intro b196 w a E S B_; clear B_
                  refine RunT.end ?_
                  refine RunT.alt ?_ ?_
                  · skip
                    refine Run.loadN (cs := [.int .i64 s.kind, .int .i64 s.node, .int .i64 s.phase, .int .i64 s.pos, .int .i64 s.start, .int .i64 s.depth, .int .i64 s.org, .slice C s.caps.length d]) rfl rfl E S rfl rfl rfl ag34 rfl (fun _ s => objAll s 6 rfl) ?_; clear E a; intro a E
                    refine RunT.end ?_
                    refine RunT.one ?_
                    replace S : St _ _ _ [_, _, _, _, _, _, _] := S.objRow (sz := 1) (n := 0) 0 rfl rfl (Nat.zero_le _) rfl
                    refine Run.appendRd (news := u8s hd) (nm := hd.length) 0 rfl E S rfl rfl rfl rfl rfl Try.underlying22 I5 rfl rfl (H1.bel S.belT) (u8s_one _) (by simp) (by simp only [List.length_append] at *; omega) (by simp only [List.length_append] at *; omega) ?_; clear E a S; intro A197 c198 w a E S
                    replace S : St _ _ _ [_, .obj _ _ [_, _, _, _, _, _, _, _], .obj _ _ [_, _, _, _, _, _, _, _], _, _, .obj _ _ [_, _, _, _, _, _, _, _], .obj _ _ [_, _, _, _, _, _, _, _]] := S
                    replace S : St _ _ _ [.row (.slice A197 hd.length c198) 5 1 hd.length (u8s hd), _, _, _, _, _, _] := S
                    refine RunT.end ?_
                    refine RunT.one ?_
                    refine Run.appendRd (news := u8s (rec18 s t)) (nm := (hd ++ rec18 s t).length) 0 rfl E S rfl rfl rfl rfl rfl Try.underlying22 I5 rfl rfl (S.rd 4 rfl) (u8s_one _) (by simp only [List.length_append]) (by simp only [List.length_append] at *; omega) (by simp only [List.length_append] at *; omega) ?_; clear E a S; intro A199 c200 w a E S
                    rw [u8s_append] at S
                    replace S : St _ _ _ [_, .obj _ _ [_, _, _, _, _, _, _, _], .obj _ _ [_, _, _, _, _, _, _, _], _, _, .obj _ _ [_, _, _, _, _, _, _, _], .obj _ _ [_, _, _, _, _, _, _, _]] := S
                    refine RunT.end ?_
                    refine RunT.one ?_
                    refine Run.appendRd (news := u8s tl) (nm := (hd ++ rec18 s t ++ tl).length) 0 rfl E S rfl rfl rfl rfl rfl Try.underlying22 I5 rfl rfl (H4.bel S.belT) (u8s_one _) (by simp only [List.length_append]) (by simp only [List.length_append] at *; omega) (by simp only [List.length_append] at *; omega) ?_; clear E a S; intro A201 c202 w a E S
                    rw [u8s_append] at S
                    replace S : St _ _ _ [_, .obj _ _ [_, _, _, _, _, _, _, _], .obj _ _ [_, _, _, _, _, _, _, _], _, _, .obj _ _ [_, _, _, _, _, _, _, _], .obj _ _ [_, _, _, _, _, _, _, _]] := S
                    refine RunT.end ?_
                    refine RunT.one ?_
                    refine Run.call (args := [.agg #[.int .i64 s.kind, .int .i64 s.node, .int .i64 s.phase, .int .i64 s.pos, .int .i64 s.start, .int .i64 s.depth, .int .i64 s.org, .slice C s.caps.length d], .slice A201 ((hd ++ rec18 s t ++ tl).length) c202, .int .i64 (hd.length : Int)]) rfl rfl E rfl rfl Try.func66 nm66 rfl rfl (read_ok (t := t) (b := hd ++ rec18 s t ++ tl) (S.rd 0 rfl) hbB (by simp only [List.length_append]; omega) (H2.bel S.belT) hB (Int.natCast_nonneg _) hat (base_len hB) hrd hR) ?_; rintro e_ w ⟨D203, e204, rfl, S_⟩; refine ⟨_, rfl, (fun _ => S_.belT), ?_⟩; clear E a; intro a E
                    replace S : St _ _ _ [_, _, .obj _ _ [_, _, _, _, _, _, _, _], .obj _ _ [_, _, _, _, _, _, _, _], _, _, .obj _ _ [_, _, _, _, _, _, _, _], .obj _ _ [_, _, _, _, _, _, _, _]] := St.call (A := []) (R := [_, _, _, _, _, _, _]) S S_; clear S_
                    refine RunT.end ?_
                    refine RunT.one ?_
                    refine Run.move rfl E rfl rfl rfl ?_; clear E a; intro a E
                    refine RunT.end ?_
                    refine RunT.one ?_
                    refine Run.extract rfl E rfl rfl rfl rfl ?_; clear E a; intro a E
                    refine RunT.end ?_
                    refine RunT.one ?_
                    refine Run.extract rfl E rfl rfl rfl rfl ?_; clear E a; intro a E
                    refine RunT.end ?_
                    refine RunT.one ?_
                    refine Run.extract rfl E rfl rfl rfl rfl ?_; clear E a; intro a E
                    refine RunT.end ?_
                    refine RunT.one ?_
                    refine Run.store (news := [.int .i64 t.kind, .int .i64 t.node, .int .i64 t.phase, .int .i64 t.pos, .int .i64 t.start, .int .i64 t.depth, .int .i64 t.org, .slice D203 t.caps.length e204]) (cs' := [_, _, _, _, _, _, _, _]) (hp' := [_, _, _, _, _, _, _, _]) 2 rfl E S rfl rfl rfl rfl rfl sz34 rfl rfl rfl rfl ?_; clear S; intro w S
                    refine RunT.end ?_
                    refine RunT.one ?_
                    refine Run.assign rfl E rfl rfl rfl ?_; clear E a; intro a E
                    refine RunT.end ?_
                    refine RunT.one ?_
                    refine Run.assign rfl E rfl rfl rfl ?_; clear E a; intro a E
                    refine RunT.end ?_
                    refine RunT.done ?_
                    refine then_n ?_
                    have S : St _ _ _ [_, _, _, _, _, _, _, _] := S.sel [1, 2, 0, 3, 4, 5, 6, 7] _ rfl rfl
                    have S := S.drop1
                    exact ⟨b186, D203, e204, E.keeps [(4, _), (5, _), (8, _), (9, _), (11, _), (12, _), (13, _), (14, _)] ⟨rfl, rfl, rfl, rfl, rfl, rfl, rfl, rfl, trivial⟩, S⟩
                  · skip
                    refine RunT.altl ?_ ?_
                    · skip
                      replace S : St _ _ _ [_, _, _, _, _, _, _] := S.objRow (sz := 1) (n := 0) 0 rfl rfl (Nat.zero_le _) rfl
                      refine Run.appendRd (news := u8s hd) (nm := hd.length) 0 rfl E S rfl rfl rfl rfl rfl Try.underlying22 I5 rfl rfl (H1.bel S.belT) (u8s_one _) (by simp) (by simp only [List.length_append] at *; omega) (by simp only [List.length_append] at *; omega) ?_; clear E a S; intro A205 c206 w a E S
                      replace S : St _ _ _ [_, .obj _ _ [_, _, _, _, _, _, _, _], .obj _ _ [_, _, _, _, _, _, _, _], _, _, .obj _ _ [_, _, _, _, _, _, _, _], .obj _ _ [_, _, _, _, _, _, _, _]] := S
                      replace S : St _ _ _ [.row (.slice A205 hd.length c206) 5 1 hd.length (u8s hd), _, _, _, _, _, _] := S
                      refine RunT.end ?_
                      refine RunT.alt ?_ ?_
                      · skip
                        refine Run.loadN (cs := [.int .i64 s.kind, .int .i64 s.node, .int .i64 s.phase, .int .i64 s.pos, .int .i64 s.start, .int .i64 s.depth, .int .i64 s.org, .slice C s.caps.length d]) rfl rfl E S rfl rfl rfl ag34 rfl (fun _ s => objAll s 6 rfl) ?_; clear E a; intro a E
                        refine RunT.end ?_
                        refine RunT.one ?_
                        refine Run.appendRd (news := u8s (rec18 s t)) (nm := (hd ++ rec18 s t).length) 0 rfl E S rfl rfl rfl rfl rfl Try.underlying22 I5 rfl rfl (S.rd 4 rfl) (u8s_one _) (by simp only [List.length_append]) (by simp only [List.length_append] at *; omega) (by simp only [List.length_append] at *; omega) ?_; clear E a S; intro A207 c208 w a E S
                        rw [u8s_append] at S
                        replace S : St _ _ _ [_, .obj _ _ [_, _, _, _, _, _, _, _], .obj _ _ [_, _, _, _, _, _, _, _], _, _, .obj _ _ [_, _, _, _, _, _, _, _], .obj _ _ [_, _, _, _, _, _, _, _]] := S
                        refine RunT.end ?_
                        refine RunT.one ?_
                        refine Run.appendRd (news := u8s tl) (nm := (hd ++ rec18 s t ++ tl).length) 0 rfl E S rfl rfl rfl rfl rfl Try.underlying22 I5 rfl rfl (H4.bel S.belT) (u8s_one _) (by simp only [List.length_append]) (by simp only [List.length_append] at *; omega) (by simp only [List.length_append] at *; omega) ?_; clear E a S; intro A209 c210 w a E S
                        rw [u8s_append] at S
                        replace S : St _ _ _ [_, .obj _ _ [_, _, _, _, _, _, _, _], .obj _ _ [_, _, _, _, _, _, _, _], _, _, .obj _ _ [_, _, _, _, _, _, _, _], .obj _ _ [_, _, _, _, _, _, _, _]] := S
                        refine RunT.end ?_
                        refine RunT.one ?_
                        refine Run.call (args := [.agg #[.int .i64 s.kind, .int .i64 s.node, .int .i64 s.phase, .int .i64 s.pos, .int .i64 s.start, .int .i64 s.depth, .int .i64 s.org, .slice C s.caps.length d], .slice A209 ((hd ++ rec18 s t ++ tl).length) c210, .int .i64 (hd.length : Int)]) rfl rfl E rfl rfl Try.func66 nm66 rfl rfl (read_ok (t := t) (b := hd ++ rec18 s t ++ tl) (S.rd 0 rfl) hbB (by simp only [List.length_append]; omega) (H2.bel S.belT) hB (Int.natCast_nonneg _) hat (base_len hB) hrd hR) ?_; rintro e_ w ⟨D211, e212, rfl, S_⟩; refine ⟨_, rfl, (fun _ => S_.belT), ?_⟩; clear E a; intro a E
                        replace S : St _ _ _ [_, _, .obj _ _ [_, _, _, _, _, _, _, _], .obj _ _ [_, _, _, _, _, _, _, _], _, _, .obj _ _ [_, _, _, _, _, _, _, _], .obj _ _ [_, _, _, _, _, _, _, _]] := St.call (A := []) (R := [_, _, _, _, _, _, _]) S S_; clear S_
                        refine RunT.end ?_
                        refine RunT.one ?_
                        refine Run.move rfl E rfl rfl rfl ?_; clear E a; intro a E
                        refine RunT.end ?_
                        refine RunT.one ?_
                        refine Run.extract rfl E rfl rfl rfl rfl ?_; clear E a; intro a E
                        refine RunT.end ?_
                        refine RunT.one ?_
                        refine Run.extract rfl E rfl rfl rfl rfl ?_; clear E a; intro a E
                        refine RunT.end ?_
                        refine RunT.one ?_
                        refine Run.extract rfl E rfl rfl rfl rfl ?_; clear E a; intro a E
                        refine RunT.end ?_
                        refine RunT.one ?_
                        refine Run.store (news := [.int .i64 t.kind, .int .i64 t.node, .int .i64 t.phase, .int .i64 t.pos, .int .i64 t.start, .int .i64 t.depth, .int .i64 t.org, .slice D211 t.caps.length e212]) (cs' := [_, _, _, _, _, _, _, _]) (hp' := [_, _, _, _, _, _, _, _]) 2 rfl E S rfl rfl rfl rfl rfl sz34 rfl rfl rfl rfl ?_; clear S; intro w S
                        refine RunT.end ?_
                        refine RunT.one ?_
                        refine Run.assign rfl E rfl rfl rfl ?_; clear E a; intro a E
                        refine RunT.end ?_
                        refine RunT.one ?_
                        refine Run.assign rfl E rfl rfl rfl ?_; clear E a; intro a E
                        refine RunT.end ?_
                        refine RunT.done ?_
                        refine then_n ?_
                        have S : St _ _ _ [_, _, _, _, _, _, _, _] := S.sel [1, 2, 0, 3, 4, 5, 6, 7] _ rfl rfl
                        have S := S.drop1
                        exact ⟨b186, D211, e212, E.keeps [(4, _), (5, _), (8, _), (9, _), (11, _), (12, _), (13, _), (14, _)] ⟨rfl, rfl, rfl, rfl, rfl, rfl, rfl, rfl, trivial⟩, S⟩
                      · skip
                        refine RunT.altl ?_ ?_
                        · skip
                          refine Run.appendRd (news := u8s (rec18 s t)) (nm := (hd ++ rec18 s t).length) 0 rfl E S rfl rfl rfl rfl rfl Try.underlying22 I5 rfl rfl (S.rd 4 rfl) (u8s_one _) (by simp only [List.length_append]) (by simp only [List.length_append] at *; omega) (by simp only [List.length_append] at *; omega) ?_; clear E a S; intro A213 c214 w a E S
                          rw [u8s_append] at S
                          replace S : St _ _ _ [_, .obj _ _ [_, _, _, _, _, _, _, _], .obj _ _ [_, _, _, _, _, _, _, _], _, _, .obj _ _ [_, _, _, _, _, _, _, _], .obj _ _ [_, _, _, _, _, _, _, _]] := S
                          refine RunT.end ?_
                          refine RunT.alt ?_ ?_
                          · skip
                            refine Run.loadN (cs := [.int .i64 s.kind, .int .i64 s.node, .int .i64 s.phase, .int .i64 s.pos, .int .i64 s.start, .int .i64 s.depth, .int .i64 s.org, .slice C s.caps.length d]) rfl rfl E S rfl rfl rfl ag34 rfl (fun _ s => objAll s 6 rfl) ?_; clear E a; intro a E
                            refine RunT.end ?_
                            refine RunT.one ?_
                            refine Run.appendRd (news := u8s tl) (nm := (hd ++ rec18 s t ++ tl).length) 0 rfl E S rfl rfl rfl rfl rfl Try.underlying22 I5 rfl rfl (H4.bel S.belT) (u8s_one _) (by simp only [List.length_append]) (by simp only [List.length_append] at *; omega) (by simp only [List.length_append] at *; omega) ?_; clear E a S; intro A215 c216 w a E S
                            rw [u8s_append] at S
                            replace S : St _ _ _ [_, .obj _ _ [_, _, _, _, _, _, _, _], .obj _ _ [_, _, _, _, _, _, _, _], _, _, .obj _ _ [_, _, _, _, _, _, _, _], .obj _ _ [_, _, _, _, _, _, _, _]] := S
                            refine RunT.end ?_
                            refine RunT.one ?_
                            refine Run.call (args := [.agg #[.int .i64 s.kind, .int .i64 s.node, .int .i64 s.phase, .int .i64 s.pos, .int .i64 s.start, .int .i64 s.depth, .int .i64 s.org, .slice C s.caps.length d], .slice A215 ((hd ++ rec18 s t ++ tl).length) c216, .int .i64 (hd.length : Int)]) rfl rfl E rfl rfl Try.func66 nm66 rfl rfl (read_ok (t := t) (b := hd ++ rec18 s t ++ tl) (S.rd 0 rfl) hbB (by simp only [List.length_append]; omega) (H2.bel S.belT) hB (Int.natCast_nonneg _) hat (base_len hB) hrd hR) ?_; rintro e_ w ⟨D217, e218, rfl, S_⟩; refine ⟨_, rfl, (fun _ => S_.belT), ?_⟩; clear E a; intro a E
                            replace S : St _ _ _ [_, _, .obj _ _ [_, _, _, _, _, _, _, _], .obj _ _ [_, _, _, _, _, _, _, _], _, _, .obj _ _ [_, _, _, _, _, _, _, _], .obj _ _ [_, _, _, _, _, _, _, _]] := St.call (A := []) (R := [_, _, _, _, _, _, _]) S S_; clear S_
                            refine RunT.end ?_
                            refine RunT.one ?_
                            refine Run.move rfl E rfl rfl rfl ?_; clear E a; intro a E
                            refine RunT.end ?_
                            refine RunT.one ?_
                            refine Run.extract rfl E rfl rfl rfl rfl ?_; clear E a; intro a E
                            refine RunT.end ?_
                            refine RunT.one ?_
                            refine Run.extract rfl E rfl rfl rfl rfl ?_; clear E a; intro a E
                            refine RunT.end ?_
                            refine RunT.one ?_
                            refine Run.extract rfl E rfl rfl rfl rfl ?_; clear E a; intro a E
                            refine RunT.end ?_
                            refine RunT.one ?_
                            refine Run.store (news := [.int .i64 t.kind, .int .i64 t.node, .int .i64 t.phase, .int .i64 t.pos, .int .i64 t.start, .int .i64 t.depth, .int .i64 t.org, .slice D217 t.caps.length e218]) (cs' := [_, _, _, _, _, _, _, _]) (hp' := [_, _, _, _, _, _, _, _]) 2 rfl E S rfl rfl rfl rfl rfl sz34 rfl rfl rfl rfl ?_; clear S; intro w S
                            refine RunT.end ?_
                            refine RunT.one ?_
                            refine Run.assign rfl E rfl rfl rfl ?_; clear E a; intro a E
                            refine RunT.end ?_
                            refine RunT.one ?_
                            refine Run.assign rfl E rfl rfl rfl ?_; clear E a; intro a E
                            refine RunT.end ?_
                            refine RunT.done ?_
                            refine then_n ?_
                            have S : St _ _ _ [_, _, _, _, _, _, _, _] := S.sel [1, 2, 0, 3, 4, 5, 6, 7] _ rfl rfl
                            have S := S.drop1
                            exact ⟨b186, D217, e218, E.keeps [(4, _), (5, _), (8, _), (9, _), (11, _), (12, _), (13, _), (14, _)] ⟨rfl, rfl, rfl, rfl, rfl, rfl, rfl, rfl, trivial⟩, S⟩
                          · skip
                            refine RunT.altl ?_ ?_
                            · skip
                              refine Run.appendRd (news := u8s tl) (nm := (hd ++ rec18 s t ++ tl).length) 0 rfl E S rfl rfl rfl rfl rfl Try.underlying22 I5 rfl rfl (H4.bel S.belT) (u8s_one _) (by simp only [List.length_append]) (by simp only [List.length_append] at *; omega) (by simp only [List.length_append] at *; omega) ?_; clear E a S; intro A219 c220 w a E S
                              rw [u8s_append] at S
                              replace S : St _ _ _ [_, .obj _ _ [_, _, _, _, _, _, _, _], .obj _ _ [_, _, _, _, _, _, _, _], _, _, .obj _ _ [_, _, _, _, _, _, _, _], .obj _ _ [_, _, _, _, _, _, _, _]] := S
                              refine RunT.end ?_
                              refine RunT.one ?_
                              refine Run.loadN (cs := [.int .i64 s.kind, .int .i64 s.node, .int .i64 s.phase, .int .i64 s.pos, .int .i64 s.start, .int .i64 s.depth, .int .i64 s.org, .slice C s.caps.length d]) rfl rfl E S rfl rfl rfl ag34 rfl (fun _ s => objAll s 6 rfl) ?_; clear E a; intro a E
                              refine RunT.end ?_
                              refine RunT.one ?_
                              refine Run.call (args := [.agg #[.int .i64 s.kind, .int .i64 s.node, .int .i64 s.phase, .int .i64 s.pos, .int .i64 s.start, .int .i64 s.depth, .int .i64 s.org, .slice C s.caps.length d], .slice A219 ((hd ++ rec18 s t ++ tl).length) c220, .int .i64 (hd.length : Int)]) rfl rfl E rfl rfl Try.func66 nm66 rfl rfl (read_ok (t := t) (b := hd ++ rec18 s t ++ tl) (S.rd 0 rfl) hbB (by simp only [List.length_append]; omega) (H2.bel S.belT) hB (Int.natCast_nonneg _) hat (base_len hB) hrd hR) ?_; rintro e_ w ⟨D221, e222, rfl, S_⟩; refine ⟨_, rfl, (fun _ => S_.belT), ?_⟩; clear E a; intro a E
                              replace S : St _ _ _ [_, _, .obj _ _ [_, _, _, _, _, _, _, _], .obj _ _ [_, _, _, _, _, _, _, _], _, _, .obj _ _ [_, _, _, _, _, _, _, _], .obj _ _ [_, _, _, _, _, _, _, _]] := St.call (A := []) (R := [_, _, _, _, _, _, _]) S S_; clear S_
                              refine RunT.end ?_
                              refine RunT.one ?_
                              refine Run.move rfl E rfl rfl rfl ?_; clear E a; intro a E
                              refine RunT.end ?_
                              refine RunT.one ?_
                              refine Run.extract rfl E rfl rfl rfl rfl ?_; clear E a; intro a E
                              refine RunT.end ?_
                              refine RunT.one ?_
                              refine Run.extract rfl E rfl rfl rfl rfl ?_; clear E a; intro a E
                              refine RunT.end ?_
                              refine RunT.one ?_
                              refine Run.extract rfl E rfl rfl rfl rfl ?_; clear E a; intro a E
                              refine RunT.end ?_
                              refine RunT.one ?_
                              refine Run.store (news := [.int .i64 t.kind, .int .i64 t.node, .int .i64 t.phase, .int .i64 t.pos, .int .i64 t.start, .int .i64 t.depth, .int .i64 t.org, .slice D221 t.caps.length e222]) (cs' := [_, _, _, _, _, _, _, _]) (hp' := [_, _, _, _, _, _, _, _]) 2 rfl E S rfl rfl rfl rfl rfl sz34 rfl rfl rfl rfl ?_; clear S; intro w S
                              refine RunT.end ?_
                              refine RunT.one ?_
                              refine Run.assign rfl E rfl rfl rfl ?_; clear E a; intro a E
                              refine RunT.end ?_
                              refine RunT.one ?_
                              refine Run.assign rfl E rfl rfl rfl ?_; clear E a; intro a E
                              refine RunT.end ?_
                              refine RunT.done ?_
                              refine then_n ?_
                              have S : St _ _ _ [_, _, _, _, _, _, _, _] := S.sel [1, 2, 0, 3, 4, 5, 6, 7] _ rfl rfl
                              have S := S.drop1
                              exact ⟨b186, D221, e222, E.keeps [(4, _), (5, _), (8, _), (9, _), (11, _), (12, _), (13, _), (14, _)] ⟨rfl, rfl, rfl, rfl, rfl, rfl, rfl, rfl, trivial⟩, S⟩
                            · skip
                              exact RunT.none
                        · skip
                          exact RunT.none
                    · skip
                      exact RunT.none
                · skip
                  exact RunT.none
            · skip
              exact RunT.none
      clear E a S
      rintro a w ⟨b9, D9, e9, E, S⟩
      refine wp_seq ?_
      refine region_plain (n := 19) [(0, .p), (1, .p), (2, .p), (3, .p), (4, .p), (5, .p), (6, .p), (7, .p), (8, .p), (9, .l), (10, .l), (11, .e), (12, .p), (13, .p), (14, .l), (15, .l), (16, .e), (17, .p), (18, .p)] rfl rfl ?_
      refine Run.move rfl E rfl rfl rfl ?_; clear E a; intro a E
      refine Run.eqi rfl E rfl rfl rfl rfl (b := true) (by decide) ?_; clear E a; intro a E
      refine Run.move rfl E rfl rfl rfl ?_; clear E a; intro a E
      refine Run.move rfl E rfl rfl rfl ?_; clear E a; intro a E
      refine Run.move rfl E rfl rfl rfl ?_; clear E a; intro a E
      refine Run.len rfl E rfl rfl rfl Try.underlying22 ?_; clear E a; intro a E
      refine Run.eqi rfl E rfl rfl rfl rfl (decide_eq_true (by rw [wrap_i64]; omega)) ?_; clear E a; intro a E
      refine Run.pickT rfl E rfl rfl rfl rfl ?_; clear E a; intro a E
      refine Run.move rfl E rfl rfl rfl ?_; clear E a; intro a E
      refine Run.loadN (cs := [.int .i64 t.kind, .int .i64 t.node, .int .i64 t.phase, .int .i64 t.pos, .int .i64 t.start, .int .i64 t.depth, .int .i64 t.org, .slice D9 t.caps.length e9]) rfl rfl E S rfl rfl rfl ag34 rfl (fun _ s => objAll s 0 rfl) ?_; clear E a; intro a E
      refine Run.loadN (cs := [.int .i64 t.kind, .int .i64 t.node, .int .i64 t.phase, .int .i64 t.pos, .int .i64 t.start, .int .i64 t.depth, .int .i64 t.org, .slice B t.caps.length e]) rfl rfl E S rfl rfl rfl ag34 rfl (fun _ s => objAll s 5 rfl) ?_; clear E a; intro a E
      refine Run.call (args := [.agg #[.int .i64 t.kind, .int .i64 t.node, .int .i64 t.phase, .int .i64 t.pos, .int .i64 t.start, .int .i64 t.depth, .int .i64 t.org, .slice D9 t.caps.length e9], .agg #[.int .i64 t.kind, .int .i64 t.node, .int .i64 t.phase, .int .i64 t.pos, .int .i64 t.start, .int .i64 t.depth, .int .i64 t.org, .slice B t.caps.length e]]) rfl rfl E rfl rfl Try.func42 nm42 rfl rfl (same_walk (s := t) (t := t) (S.rd 1 rfl) (H3.bel S.belT) (by omega)) ?_; rintro e_ w ⟨rfl, B_⟩; refine ⟨_, rfl, fun _ => B_, ?_⟩; clear E a; replace S := S.bel B_; intro a E
      clear B_
      replace E := E.setb 63 rfl (decide_eq_true rfl)
      refine Run.pickT rfl E rfl rfl rfl rfl ?_; clear E a; intro a E
      refine Run.move rfl E rfl rfl rfl ?_; clear E a; intro a E
      refine Run.loadN (cs := [.int .i64 s.kind, .int .i64 s.node, .int .i64 s.phase, .int .i64 s.pos, .int .i64 s.start, .int .i64 s.depth, .int .i64 s.org, .slice C s.caps.length d]) rfl rfl E S rfl rfl rfl ag34 rfl (fun _ s => objAll s 6 rfl) ?_; clear E a; intro a E
      refine Run.loadN (cs := [.int .i64 s.kind, .int .i64 s.node, .int .i64 s.phase, .int .i64 s.pos, .int .i64 s.start, .int .i64 s.depth, .int .i64 s.org, .slice D5 s.caps.length e6]) rfl rfl E S rfl rfl rfl ag34 rfl (fun _ s => objAll s 2 rfl) ?_; clear E a; intro a E
      refine Run.call (args := [.agg #[.int .i64 s.kind, .int .i64 s.node, .int .i64 s.phase, .int .i64 s.pos, .int .i64 s.start, .int .i64 s.depth, .int .i64 s.org, .slice C s.caps.length d], .agg #[.int .i64 s.kind, .int .i64 s.node, .int .i64 s.phase, .int .i64 s.pos, .int .i64 s.start, .int .i64 s.depth, .int .i64 s.org, .slice D5 s.caps.length e6]]) rfl rfl E rfl rfl Try.func42 nm42 rfl rfl (same_walk (s := s) (t := s) (H2.bel S.belT) (S.rd 3 rfl) (by omega)) ?_; rintro e_ w ⟨rfl, B_⟩; refine ⟨_, rfl, fun _ => B_, ?_⟩; clear E a; replace S := S.bel B_; intro a E
      clear B_
      replace E := E.setb 68 rfl (decide_eq_true rfl)
      refine Run.pickT rfl E rfl rfl rfl rfl ?_; clear E a; intro a E
      refine Run.assign rfl E rfl rfl rfl ?_; clear E a; intro a E
      refine Run.nil ?_
      refine then_n ?_
      refine wp_ret ?_
      exact ret1 E Try.results14 rfl ⟨rfl, S.belT⟩

theorem deltaBack_walk (H2 : Rd w0 C s.caps.length 1 (ints s.caps)) (hs : s.caps.length ≤ 140737488355328) (H3 : Rd w0 B t.caps.length 1 (ints t.caps)) (ht : t.caps.length ≤ 140737488355328) (H1 : Rd w0 A hd.length 1 (u8s hd)) (hb8 : ∀ x ∈ hd, x < 256) (hl : hd.length ≤ 140737488355328) (H4 : Rd w0 G tl.length 1 (u8s tl)) (hb9 : ∀ x ∈ tl, x < 256) (hl4 : tl.length ≤ 140737488355328) : Calls Try.prog 14 [.agg #[.int .i64 s.kind, .int .i64 s.node, .int .i64 s.phase, .int .i64 s.pos, .int .i64 s.start, .int .i64 s.depth, .int .i64 s.org, .slice C s.caps.length d], .agg #[.int .i64 t.kind, .int .i64 t.node, .int .i64 t.phase, .int .i64 t.pos, .int .i64 t.start, .int .i64 t.depth, .int .i64 t.org, .slice B t.caps.length e], .slice A hd.length c, .slice G tl.length g].toArray w0 (fun r w' => r = .returned (.bool true) ∧ Bel w0 w') := by
  by_cases hB : s.base
  · by_cases hR : t.Right s.groups
    · exact dback_ok H2 hs H3 ht H1 hb8 hl H4 hb9 hl4 hB hR
    · exact dback_nor H2 hs H3 ht H1 hb8 hl H4 hb9 hl4 hB hR
  · exact dback_nobase H2 hs H3 ht H1 hb8 hl H4 hb9 hl4 hB

end
end Go.Proofs.Ytlcglefbhlhcpaa.K
