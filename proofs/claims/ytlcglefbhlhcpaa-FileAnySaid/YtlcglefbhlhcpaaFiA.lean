/- A file: Equal, HasPrefix, head, Pack, Same, number, record. -/
import Derived.Test.YtlcglefbhlhcpaaKg
import Derived.Test.YtlcglefbhlhcpaaFiP
import Derived.Test.YtlcglefbhlhcpaaTaB
namespace Go.Proofs.Ytlcglefbhlhcpaa.K
open Go.RowKit
set_option linter.unusedVariables false
set_option maxRecDepth 100000
set_option maxHeartbeats 400000

section
variable {w0 : World} {A B C D U A2 B2 C2 : Option Addr} {c d e f q g c2 d2 e2 g2 : Nat} {b l m : List Nat} {G ev G2 ev2 n k p : Nat} {lim lim2 at_ : Int} {ts us : List Sta} {s t u : Sta}

theorem beq_walk (H1 : Rd w0 A l.length 1 (u8s l)) (H2 : Rd w0 B m.length 1 (u8s m)) (hl8 : ∀ x ∈ l, x < 256) (hm8 : ∀ x ∈ m, x < 256) : Calls Try.prog 89 [.slice A l.length c, .slice B m.length d].toArray w0 (fun r w' => r = .returned (.bool (decide (l = m))) ∧ Bel w0 w') := by
  have S := St.nil [] w0
  refine fn_start Try.func89 rfl 10 rfl rfl [(0, _), (1, _)] ⟨rfl, rfl, trivial⟩ ?_; intro a E
  refine wp_seq ?_
  refine region_plain (n := 1) [(0, .p)] rfl rfl ?_
  refine Run.assign rfl E rfl rfl rfl ?_; clear E a; intro a E
  refine Run.nil ?_
  refine then_n ?_
  refine wp_seq ?_
  refine region_plain (n := 6) [(0, .p), (1, .l), (2, .p), (3, .l), (4, .p), (5, .p)] rfl rfl ?_
  refine Run.move rfl E rfl rfl rfl ?_; clear E a; intro a E
  refine Run.toStr (l := l) rfl rfl E rfl rfl rfl (H1.bel S.belT) rfl Try.underlying22 Try.underlying5 Try.underlying9 ?_; clear E a; intro a E
  refine Run.move rfl E rfl rfl rfl ?_; clear E a; intro a E
  refine Run.toStr (l := m) rfl rfl E rfl rfl rfl (H2.bel S.belT) rfl Try.underlying22 Try.underlying5 Try.underlying9 ?_; clear E a; intro a E
  refine Run.eqs (b := decide (l = m)) rfl E rfl rfl rfl rfl (strB_eq hl8 hm8) ?_; clear E a; intro a E
  refine Run.assign rfl E rfl rfl rfl ?_; clear E a; intro a E
  refine Run.nil ?_
  refine then_n ?_
  refine wp_ret ?_
  exact ret1 E Try.results89 rfl ⟨rfl, S.belT⟩

theorem beq_take {w0 : World} {A B : Option Addr} {c d n : Nat} {b m : List Nat} (H1 : Rd w0 A b.length 1 (u8s b)) (hn : n ≤ b.length) (H2 : Rd w0 B m.length 1 (u8s m)) (hl8 : ∀ x ∈ b, x < 256) (hm8 : ∀ x ∈ m, x < 256) : Calls Try.prog 89 [.slice A n c, .slice B m.length d].toArray w0 (fun r w' => r = .returned (.bool (decide (b.take n = m))) ∧ Bel w0 w') := by
  have e : (b.take n).length = n := by simp; omega
  have h := beq_walk (c := c) (d := d) (l := b.take n) (m := m) (by rw [e]; exact H1.takeB hn) H2 (fun x hx => hl8 x (List.mem_of_mem_take hx)) hm8
  rw [e] at h; exact h

theorem hpre_short (H1 : Rd w0 A b.length 1 (u8s b)) (hb8 : ∀ x ∈ b, x < 256) (hbc : b.length ≤ c) (H2 : Rd w0 B m.length 1 (u8s m)) (hm8 : ∀ x ∈ m, x < 256) (h : b.length < m.length) : Calls Try.prog 81 [.slice A b.length c, .slice B m.length d].toArray w0 (fun r w' => r = .returned (.bool (decide (b.take m.length = m))) ∧ Bel w0 w') := by
  have S := St.nil [] w0
  refine fn_start Try.func81 rfl 18 rfl rfl [(0, _), (1, _)] ⟨rfl, rfl, trivial⟩ ?_; intro a E
  refine wp_seq ?_
  refine region_plain (n := 1) [(0, .p)] rfl rfl ?_
  refine Run.assign rfl E rfl rfl rfl ?_; clear E a; intro a E
  refine Run.nil ?_
  refine then_n ?_
  refine wp_seq ?_
  refine region_plain (n := 14) [(0, .p), (1, .p), (2, .p), (3, .p), (4, .p), (5, .p), (6, .p), (7, .p), (8, .p), (9, .p), (10, .p), (11, .e), (12, .p), (13, .p)] rfl rfl ?_
  refine Run.move rfl E rfl rfl rfl ?_; clear E a; intro a E
  refine Run.len rfl E rfl rfl rfl Try.underlying22 ?_; clear E a; intro a E
  refine Run.move rfl E rfl rfl rfl ?_; clear E a; intro a E
  refine Run.len rfl E rfl rfl rfl Try.underlying22 ?_; clear E a; intro a E
  refine Run.geq rfl E rfl rfl rfl rfl (decide_eq_false (by omega)) ?_; clear E a; intro a E
  refine Run.move rfl E rfl rfl rfl ?_; clear E a; intro a E
  refine Run.off rfl E rfl rfl ?_; clear E a; intro a E
  refine Run.off rfl E rfl rfl ?_; clear E a; intro a E
  refine Run.off rfl E rfl rfl ?_; clear E a; intro a E
  refine Run.off rfl E rfl rfl ?_; clear E a; intro a E
  refine Run.off rfl E rfl rfl ?_; clear E a; intro a E
  refine Run.off rfl E rfl rfl ?_; clear E a; intro a E
  refine Run.pickF rfl E rfl rfl rfl rfl ?_; clear E a; intro a E
  refine Run.assign rfl E rfl rfl rfl ?_; clear E a; intro a E
  refine Run.nil ?_
  refine then_n ?_
  refine wp_ret ?_
  exact ret1 E Try.results81 rfl ⟨by rw [decide_eq_false (fun h => by have := congrArg List.length h; simp at this; omega)], S.belT⟩

theorem hpre_long (H1 : Rd w0 A b.length 1 (u8s b)) (hb8 : ∀ x ∈ b, x < 256) (hbc : b.length ≤ c) (H2 : Rd w0 B m.length 1 (u8s m)) (hm8 : ∀ x ∈ m, x < 256) (h : m.length ≤ b.length) : Calls Try.prog 81 [.slice A b.length c, .slice B m.length d].toArray w0 (fun r w' => r = .returned (.bool (decide (b.take m.length = m))) ∧ Bel w0 w') := by
  have S := St.nil [] w0
  refine fn_start Try.func81 rfl 18 rfl rfl [(0, _), (1, _)] ⟨rfl, rfl, trivial⟩ ?_; intro a E
  refine wp_seq ?_
  refine region_plain (n := 1) [(0, .p)] rfl rfl ?_
  refine Run.assign rfl E rfl rfl rfl ?_; clear E a; intro a E
  refine Run.nil ?_
  refine then_n ?_
  refine wp_seq ?_
  refine region_plain (n := 14) [(0, .p), (1, .p), (2, .p), (3, .p), (4, .p), (5, .p), (6, .p), (7, .p), (8, .p), (9, .p), (10, .p), (11, .e), (12, .p), (13, .p)] rfl rfl ?_
  refine Run.move rfl E rfl rfl rfl ?_; clear E a; intro a E
  refine Run.len rfl E rfl rfl rfl Try.underlying22 ?_; clear E a; intro a E
  refine Run.move rfl E rfl rfl rfl ?_; clear E a; intro a E
  refine Run.len rfl E rfl rfl rfl Try.underlying22 ?_; clear E a; intro a E
  refine Run.geq rfl E rfl rfl rfl rfl (decide_eq_true (by omega)) ?_; clear E a; intro a E
  refine Run.move rfl E rfl rfl rfl ?_; clear E a; intro a E
  refine Run.move rfl E rfl rfl rfl ?_; clear E a; intro a E
  refine Run.move rfl E rfl rfl rfl ?_; clear E a; intro a E
  refine Run.len rfl E rfl rfl rfl Try.underlying22 ?_; clear E a; intro a E
  refine Run.sliceH rfl E rfl rfl rfl rfl Try.underlying22 sz5 (by omega) (q := m.length) (by omega) ?_; clear E a; intro a E
  refine Run.move rfl E rfl rfl rfl ?_; clear E a; intro a E
  refine Run.call (args := [.slice A m.length c, .slice B m.length d]) rfl rfl E rfl rfl Try.func89 nm89 rfl rfl (beq_take (n := m.length) (H1.bel S.belT) h (H2.bel S.belT) hb8 hm8) ?_; rintro e_ w ⟨rfl, B_⟩; refine ⟨_, rfl, fun _ => B_, ?_⟩; clear E a; replace S := S.bel B_; intro a E
  clear B_
  refine Run.pickT rfl E rfl rfl rfl rfl ?_; clear E a; intro a E
  refine Run.assign rfl E rfl rfl rfl ?_; clear E a; intro a E
  refine Run.nil ?_
  refine then_n ?_
  refine wp_ret ?_
  exact ret1 E Try.results81 rfl ⟨rfl, S.belT⟩

theorem hpre_walk (H1 : Rd w0 A b.length 1 (u8s b)) (hb8 : ∀ x ∈ b, x < 256) (hbc : b.length ≤ c) (H2 : Rd w0 B m.length 1 (u8s m)) (hm8 : ∀ x ∈ m, x < 256) : Calls Try.prog 81 [.slice A b.length c, .slice B m.length d].toArray w0 (fun r w' => r = .returned (.bool (decide (b.take m.length = m))) ∧ Bel w0 w') := by
  by_cases h : b.length < m.length
  · exact hpre_short H1 hb8 hbc H2 hm8 h
  · exact hpre_long H1 hb8 hbc H2 hm8 (by omega)

theorem hdP_le (hG : G ≤ 18446744073709551615) (he : ev ≤ 18446744073709551615) (hn : n ≤ 18446744073709551615) (i : Nat) : (hdP G ev n i).length ≤ 34 := by
  have h1 := vb_len10 hG; have h2 := vb_len10 he; have h3 := headB_len hG he hn
  match i with
  | 0 => exact (by decide : magicB.length ≤ 34)
  | 1 => simp only [hdP, List.length_append, magicB, List.length_cons, List.length_nil]; omega
  | 2 => simp only [hdP, List.length_append, magicB, List.length_cons, List.length_nil]; omega
  | k + 3 => exact h3

theorem head_walk (hG : G ≤ 16777216) (he : ev ≤ 16777216) (hn : n ≤ 16777216) : Calls Try.prog 84 [.int .i64 (G : Int), .int .i64 (ev : Int), .int .i64 (n : Int)].toArray w0 (fun r w' => ∃ X e, r = .returned (.slice X (headB G ev n).length e) ∧ St [] w0 w' [.row (.slice X (headB G ev n).length e) 5 1 (headB G ev n).length (u8s (headB G ev n))]) := by
  have S := St.nil [] w0
  have hv1 := @vb_len10 G (by omega); have hv2 := @vb_len10 ev (by omega); have hv3 := @vb_len10 n (by omega)
  have hh0 := hdP_le (G := G) (ev := ev) (n := n) (by omega) (by omega) (by omega) 0
  have hh1 := hdP_le (G := G) (ev := ev) (n := n) (by omega) (by omega) (by omega) 1
  have hh2 := hdP_le (G := G) (ev := ev) (n := n) (by omega) (by omega) (by omega) 2
  refine fn_start Try.func84 rfl 26 rfl rfl [(0, _), (1, _), (2, _)] ⟨rfl, rfl, rfl, trivial⟩ ?_; intro a E
  refine wp_seq ?_
  refine region_plain (n := 1) [(0, .p)] rfl rfl ?_
  refine Run.assign rfl E rfl rfl rfl ?_; clear E a; intro a E
  refine Run.nil ?_
  refine then_n ?_
  refine wp_seq ?_
  refine region_plain (n := 3) [(0, .e), (1, .l), (2, .p)] rfl rfl ?_
  refine Run.buildSlice (cs := [.int .u8 67, .int .u8 76, .int .u8 87, .int .u8 49]) [(0, .int .u8 67), (1, .int .u8 76), (2, .int .u8 87), (3, .int .u8 49)] rfl rfl E S rfl rfl rfl Try.underlying22 (by kernel_rfl) ?_; clear E a S; intro b1 w a E S B_; clear B_
  refine Run.convMark rfl E S rfl rfl rfl rfl Try.underlying22 Try.underlying5 ?_; clear E a S; intro w a E S Hm
  replace Hm : Rd _ _ _ 1 (u8s magicB) := Hm
  refine Run.assign rfl E rfl rfl rfl ?_; clear E a; intro a E
  refine Run.nil ?_
  refine then_n ?_
  refine wp_seq ?_
  refine wp_seq ?_
  refine region_plain (n := 5) [(0, .p), (1, .p), (2, .p), (3, .p), (4, .p)] rfl rfl ?_
  refine Run.move rfl E rfl rfl rfl ?_; clear E a; intro a E
  refine Run.move rfl E rfl rfl rfl ?_; clear E a; intro a E
  refine Run.move rfl E rfl rfl rfl ?_; clear E a; intro a E
  refine Run.build (cs := #[.int .i64 (G : Int), .int .i64 (ev : Int), .int .i64 (n : Int)]) [(0, .int .i64 (G : Int)), (1, .int .i64 (ev : Int)), (2, .int .i64 (n : Int))] rfl E rfl rfl rfl (by kernel_rfl) ?_; clear E a; intro a E
  refine Run.move rfl E rfl rfl rfl ?_; clear E a; intro a E
  refine Run.nil ?_
  refine then_n ?_
  refine wp_block ?_
  refine wp_loop_ghost (fun n_ a w => ∃ (i : Nat) (Aq : Option Addr) (cq : Nat), 3 - i = n_ ∧ i ≤ 3 ∧ Env 26 [(6, .slice none 0 0), (7, .slice Aq ((hdP G ev n i).length) cq), (15, .agg #[.int .i64 (G : Int), .int .i64 (ev : Int), .int .i64 (n : Int)]), (16, .int .i64 (i : Int))] a ∧ ((i = 0 ∧ cq = 4 ∧ St [] w0 w [] ∧ Rd w Aq 4 1 (u8s magicB)) ∨ (0 < i ∧ St [] w0 w [.row (.slice Aq (hdP G ev n i).length cq) 5 1 (hdP G ev n i).length (u8s (hdP G ev n i))]))) _ ⟨0, some ⟨b1, 0, none⟩, 4, rfl, by decide, E.keeps [(6, _), (7, _), (15, _), (16, _)] ⟨rfl, rfl, rfl, rfl, trivial⟩, .inl ⟨rfl, rfl, S, Hm⟩⟩ ?_
  clear E a S Hm
  rintro n_ a w ⟨i, Aq, cq, rfl, hi, E, hS⟩
  rcases (by omega : i = 0 ∨ i = 1 ∨ i = 2 ∨ i = 3) with rfl | rfl | rfl | rfl
  · skip
    obtain ⟨_, rfl, S, Hm⟩ := hS.resolve_right (fun h => absurd h.1 (by decide))
    replace E := E.setv 7 rfl (show Value.slice Aq (hdP G ev n 0).length 4 = .slice Aq 4 4 from rfl)
    refine wp_seq ?_
    refine region_plain (n := 1) [(0, .p)] rfl rfl ?_
    refine Run.lss rfl E rfl rfl rfl rfl (decide_eq_true (by decide)) ?_; clear E a; intro a E
    refine Run.nil ?_
    refine then_n ?_
    refine wp_seq ?_
    refine cond_T E rfl ?_
    refine wp_skip ?_
    refine then_n ?_
    refine wp_seq ?_
    refine wp_block ?_
    refine wp_seq ?_
    refine region_plain (n := 2) [(0, .p), (1, .p)] rfl rfl ?_
    refine Run.indexA rfl E rfl rfl rfl rfl Try.underlying164 (by kernel_rfl) (by kernel_rfl) (by decide) rfl ?_; clear E a; intro a E
    refine Run.assign rfl E rfl rfl rfl ?_; clear E a; intro a E
    refine Run.nil ?_
    refine then_n ?_
    refine region_plain (n := 6) [(0, .p), (1, .p), (2, .p), (3, .e), (4, .l), (5, .p)] rfl rfl ?_
    refine Run.move rfl E rfl rfl rfl ?_; clear E a; intro a E
    refine Run.move rfl E rfl rfl rfl ?_; clear E a; intro a E
    refine Run.conv rfl E rfl rfl rfl Try.underlying3 Try.underlying145 (u64_ok (by omega)) ?_; clear E a; intro a E
    refine Run.call (args := [.int .u64 (G : Int)]) rfl rfl E rfl rfl Try.func100 nm100 rfl rfl (vb_walk (n := G) (by omega)) ?_; rintro e_ w ⟨X2, e3, rfl, S_⟩; refine ⟨_, rfl, (fun _ => S_.belT), ?_⟩; clear E a; intro a E
    replace Hm := Hm.bel S_.belT
    replace S : St _ _ _ [_] := St.call (A := []) (R := []) S S_; clear S_
    refine Run.appendGrow (olds := u8s magicB) (news := u8s (vb G)) (nm := (magicB ++ vb G).length) rfl rfl E S rfl rfl rfl rfl Try.underlying22 I5 rfl (Hm) (S.rd 0 rfl) (by decide) (vb_pos G) (by simp [magicB]; try omega) (by simp only [List.length_append]; simp only [magicB, List.length_cons, List.length_nil]; omega) ?_; clear E a S; intro A4 c5 w a E S
    rw [u8s_append] at S
    replace S : St _ _ _ [_, _] := S
    refine Run.assign rfl E rfl rfl rfl ?_; clear E a; intro a E
    refine Run.nil ?_
    refine blk_n ?_
    refine then_n ?_
    refine region_plain (n := 2) [(0, .p), (1, .p)] rfl rfl ?_
    refine Run.add rfl E rfl rfl rfl rfl (i64_ok (by decide)) ?_; clear E a; intro a E
    refine Run.move rfl E rfl rfl rfl ?_; clear E a; intro a E
    refine Run.nil ?_
    refine then_n ?_
    replace E := E.setv 16 rfl (show Value.int .i64 (((0 : Nat) : Int) + 1) = .int .i64 ((0 + 1 : Nat) : Int) from rfl)
    have S : St _ _ _ [_, _] := S.sel [1, 0] _ rfl rfl
    have S := S.drop1
    exact ⟨_, (by decide), 0 + 1, A4, c5, rfl, by decide, E.keeps [(6, _), (7, _), (15, _), (16, _)] ⟨rfl, rfl, rfl, rfl, trivial⟩, .inr ⟨by decide, S⟩⟩
  · skip
    have S := (hS.resolve_left (fun h => absurd h.1 (by decide))).2
    refine wp_seq ?_
    refine region_plain (n := 1) [(0, .p)] rfl rfl ?_
    refine Run.lss rfl E rfl rfl rfl rfl (decide_eq_true (by decide)) ?_; clear E a; intro a E
    refine Run.nil ?_
    refine then_n ?_
    refine wp_seq ?_
    refine cond_T E rfl ?_
    refine wp_skip ?_
    refine then_n ?_
    refine wp_seq ?_
    refine wp_block ?_
    refine wp_seq ?_
    refine region_plain (n := 2) [(0, .p), (1, .p)] rfl rfl ?_
    refine Run.indexA rfl E rfl rfl rfl rfl Try.underlying164 (by kernel_rfl) (by kernel_rfl) (by decide) rfl ?_; clear E a; intro a E
    refine Run.assign rfl E rfl rfl rfl ?_; clear E a; intro a E
    refine Run.nil ?_
    refine then_n ?_
    refine region_plain (n := 6) [(0, .p), (1, .p), (2, .p), (3, .e), (4, .l), (5, .p)] rfl rfl ?_
    refine Run.move rfl E rfl rfl rfl ?_; clear E a; intro a E
    refine Run.move rfl E rfl rfl rfl ?_; clear E a; intro a E
    refine Run.conv rfl E rfl rfl rfl Try.underlying3 Try.underlying145 (u64_ok (by omega)) ?_; clear E a; intro a E
    refine Run.call (args := [.int .u64 (ev : Int)]) rfl rfl E rfl rfl Try.func100 nm100 rfl rfl (vb_walk (n := ev) (by omega)) ?_; rintro e_ w ⟨X6, e7, rfl, S_⟩; refine ⟨_, rfl, (fun _ => S_.belT), ?_⟩; clear E a; intro a E
    replace S : St _ _ _ [_, _] := St.call (A := []) (R := [_]) S S_; clear S_
    have hnl : ((hdP G ev n 1) ++ vb ev).length = (hdP G ev n 1).length + (vb ev).length := List.length_append
    refine Run.appendRd (news := u8s (vb ev)) (nm := ((hdP G ev n 1) ++ vb ev).length) 1 rfl E S rfl rfl rfl rfl rfl Try.underlying22 I5 rfl rfl (S.rd 0 rfl) (u8s_one _) (by simp only [List.length_append]) (by omega) (by omega) ?_; clear E a S; intro A8 c9 w a E S
    rw [u8s_append] at S
    replace S : St _ _ _ [_, _] := S
    refine Run.assign rfl E rfl rfl rfl ?_; clear E a; intro a E
    refine Run.nil ?_
    refine blk_n ?_
    refine then_n ?_
    refine region_plain (n := 2) [(0, .p), (1, .p)] rfl rfl ?_
    refine Run.add rfl E rfl rfl rfl rfl (i64_ok (by decide)) ?_; clear E a; intro a E
    refine Run.move rfl E rfl rfl rfl ?_; clear E a; intro a E
    refine Run.nil ?_
    refine then_n ?_
    replace E := E.setv 16 rfl (show Value.int .i64 (((1 : Nat) : Int) + 1) = .int .i64 ((1 + 1 : Nat) : Int) from rfl)
    have S : St _ _ _ [_, _] := S.sel [0, 1] _ rfl rfl
    have S := S.drop1
    exact ⟨_, (by decide), 1 + 1, A8, c9, rfl, by decide, E.keeps [(6, _), (7, _), (15, _), (16, _)] ⟨rfl, rfl, rfl, rfl, trivial⟩, .inr ⟨by decide, S⟩⟩
  · skip
    have S := (hS.resolve_left (fun h => absurd h.1 (by decide))).2
    refine wp_seq ?_
    refine region_plain (n := 1) [(0, .p)] rfl rfl ?_
    refine Run.lss rfl E rfl rfl rfl rfl (decide_eq_true (by decide)) ?_; clear E a; intro a E
    refine Run.nil ?_
    refine then_n ?_
    refine wp_seq ?_
    refine cond_T E rfl ?_
    refine wp_skip ?_
    refine then_n ?_
    refine wp_seq ?_
    refine wp_block ?_
    refine wp_seq ?_
    refine region_plain (n := 2) [(0, .p), (1, .p)] rfl rfl ?_
    refine Run.indexA rfl E rfl rfl rfl rfl Try.underlying164 (by kernel_rfl) (by kernel_rfl) (by decide) rfl ?_; clear E a; intro a E
    refine Run.assign rfl E rfl rfl rfl ?_; clear E a; intro a E
    refine Run.nil ?_
    refine then_n ?_
    refine region_plain (n := 6) [(0, .p), (1, .p), (2, .p), (3, .e), (4, .l), (5, .p)] rfl rfl ?_
    refine Run.move rfl E rfl rfl rfl ?_; clear E a; intro a E
    refine Run.move rfl E rfl rfl rfl ?_; clear E a; intro a E
    refine Run.conv rfl E rfl rfl rfl Try.underlying3 Try.underlying145 (u64_ok (by omega)) ?_; clear E a; intro a E
    refine Run.call (args := [.int .u64 (n : Int)]) rfl rfl E rfl rfl Try.func100 nm100 rfl rfl (vb_walk (n := n) (by omega)) ?_; rintro e_ w ⟨X10, e11, rfl, S_⟩; refine ⟨_, rfl, (fun _ => S_.belT), ?_⟩; clear E a; intro a E
    replace S : St _ _ _ [_, _] := St.call (A := []) (R := [_]) S S_; clear S_
    have hnl : ((hdP G ev n 2) ++ vb n).length = (hdP G ev n 2).length + (vb n).length := List.length_append
    refine Run.appendRd (news := u8s (vb n)) (nm := ((hdP G ev n 2) ++ vb n).length) 1 rfl E S rfl rfl rfl rfl rfl Try.underlying22 I5 rfl rfl (S.rd 0 rfl) (u8s_one _) (by simp only [List.length_append]) (by omega) (by omega) ?_; clear E a S; intro A12 c13 w a E S
    rw [u8s_append] at S
    replace S : St _ _ _ [_, _] := S
    refine Run.assign rfl E rfl rfl rfl ?_; clear E a; intro a E
    refine Run.nil ?_
    refine blk_n ?_
    refine then_n ?_
    refine region_plain (n := 2) [(0, .p), (1, .p)] rfl rfl ?_
    refine Run.add rfl E rfl rfl rfl rfl (i64_ok (by decide)) ?_; clear E a; intro a E
    refine Run.move rfl E rfl rfl rfl ?_; clear E a; intro a E
    refine Run.nil ?_
    refine then_n ?_
    replace E := E.setv 16 rfl (show Value.int .i64 (((2 : Nat) : Int) + 1) = .int .i64 ((2 + 1 : Nat) : Int) from rfl)
    have S : St _ _ _ [_, _] := S.sel [0, 1] _ rfl rfl
    have S := S.drop1
    exact ⟨_, (by decide), 2 + 1, A12, c13, rfl, by decide, E.keeps [(6, _), (7, _), (15, _), (16, _)] ⟨rfl, rfl, rfl, rfl, trivial⟩, .inr ⟨by decide, S⟩⟩
  · skip
    have S := (hS.resolve_left (fun h => absurd h.1 (by decide))).2
    refine wp_seq ?_
    refine region_plain (n := 1) [(0, .p)] rfl rfl ?_
    refine Run.lss rfl E rfl rfl rfl rfl (decide_eq_false (by decide)) ?_; clear E a; intro a E
    refine Run.nil ?_
    refine then_n ?_
    refine wp_seq ?_
    refine cond_F E rfl ?_
    refine wp_exit ?_
    refine then_x ?_
    refine then_x ?_
    refine blk_x ?_
    refine then_n ?_
    refine wp_seq ?_
    refine region_plain (n := 2) [(0, .p), (1, .p)] rfl rfl ?_
    refine Run.move rfl E rfl rfl rfl ?_; clear E a; intro a E
    refine Run.assign rfl E rfl rfl rfl ?_; clear E a; intro a E
    refine Run.nil ?_
    refine then_n ?_
    refine wp_ret ?_
    exact ret1 E Try.results84 rfl ⟨_, _, rfl, S⟩

theorem pack_walk (H : HoldsAll w0 [.obj g 128 [.int .i64 (G : Int), .int .i64 (ev : Int), .int .i64 lim, .slice A ((tbytes G ev ts).length) c, .slice B ((tstarts G ev ts).length) d, .int .i64 ((lastS ts).kind), .int .i64 ((lastS ts).node), .int .i64 ((lastS ts).phase), .int .i64 ((lastS ts).pos), .int .i64 ((lastS ts).start), .int .i64 ((lastS ts).depth), .int .i64 ((lastS ts).org), .slice C ((lastS ts).caps.length) e], .row (.slice A ((tbytes G ev ts).length) c) 5 1 ((tbytes G ev ts).length) (u8s (tbytes G ev ts)), .row (.slice B ((tstarts G ev ts).length) d) 3 1 ((tstarts G ev ts).length) (ints (tstarts G ev ts)), .row (.slice C ((lastS ts).caps.length) e) 3 1 ((lastS ts).caps.length) (ints (lastS ts).caps)]) (hok : TapeOK G ev ts) (hlim : ((tbytes G ev ts).length : Int) ≤ 16777216) : Calls Try.prog 24 [.pointer (some ⟨g, 0, none⟩)].toArray w0 (fun r w' => ∃ X e, r = .returned (.slice X (packB G ev ts).length e) ∧ St [] w0 w' [.row (.slice X (packB G ev ts).length e) 5 1 (packB G ev ts).length (u8s (packB G ev ts))]) := by
  have S := St.nil [] w0
  have hG := hok.g
  have he1 := hok.e1
  have hlen := ts_len hlim
  have hhl := headB_len (G := G) (ev := ev) (n := ts.length) (by omega) (by omega) (by omega)
  refine fn_start Try.func24 rfl 13 rfl rfl [(0, _)] ⟨rfl, trivial⟩ ?_; intro a E
  refine wp_seq ?_
  refine region_plain (n := 1) [(0, .p)] rfl rfl ?_
  refine Run.assign rfl E rfl rfl rfl ?_; clear E a; intro a E
  refine Run.nil ?_
  refine then_n ?_
  refine wp_seq ?_
  refine region_plain (n := 11) [(0, .p), (1, .e), (2, .p), (3, .e), (4, .p), (5, .e), (6, .e), (7, .p), (8, .e), (9, .l), (10, .p)] rfl rfl ?_
  refine Run.move rfl E rfl rfl rfl ?_; clear E a; intro a E
  refine Run.call (args := [.pointer (some ⟨g, 0, none⟩)]) rfl rfl E rfl rfl Try.func27 nm27 rfl rfl (tape_groups (H.bel S.belT)) ?_; rintro e_ w ⟨rfl, B_⟩; refine ⟨_, rfl, fun _ => B_, ?_⟩; clear E a; replace S := S.bel B_; intro a E
  clear B_
  refine Run.move rfl E rfl rfl rfl ?_; clear E a; intro a E
  refine Run.call (args := [.pointer (some ⟨g, 0, none⟩)]) rfl rfl E rfl rfl Try.func39 nm39 rfl rfl (tape_every (H.bel S.belT)) ?_; rintro e_ w ⟨rfl, B_⟩; refine ⟨_, rfl, fun _ => B_, ?_⟩; clear E a; replace S := S.bel B_; intro a E
  clear B_
  refine Run.move rfl E rfl rfl rfl ?_; clear E a; intro a E
  refine Run.call (args := [.pointer (some ⟨g, 0, none⟩)]) rfl rfl E rfl rfl Try.func38 nm38 rfl rfl (tape_len (H.bel S.belT)) ?_; rintro e_ w ⟨rfl, B_⟩; refine ⟨_, rfl, fun _ => B_, ?_⟩; clear E a; replace S := S.bel B_; intro a E
  clear B_
  refine Run.call (args := [.int .i64 (G : Int), .int .i64 (ev : Int), .int .i64 ((tstarts G ev ts).length : Int)]) rfl rfl E rfl rfl Try.func84 nm84 rfl rfl (by have h_ := head_walk (w0 := w) (G := G) (ev := ev) (n := ts.length) (by omega) (by omega) (by omega); rw [tstarts_len]; exact h_) ?_; rintro e_ w ⟨X1, e2, rfl, S_⟩; refine ⟨_, rfl, (fun _ => S_.belT), ?_⟩; clear E a; intro a E
  replace S : St _ _ _ [_] := St.call (A := []) (R := []) S S_; clear S_
  refine Run.move rfl E rfl rfl rfl ?_; clear E a; intro a E
  refine Run.call (args := [.pointer (some ⟨g, 0, none⟩)]) rfl rfl E rfl rfl Try.func72 nm72 rfl rfl (tape_bytes (H.bel S.belT) (by omega)) ?_; rintro e_ w ⟨X3, e4, rfl, S_⟩; refine ⟨_, rfl, (fun _ => S_.belT), ?_⟩; clear E a; intro a E
  replace S : St _ _ _ [_, _] := St.call (A := []) (R := [_]) S S_; clear S_
  have hnl : (headB G ev ts.length ++ tbytes G ev ts).length = (headB G ev ts.length).length + (tbytes G ev ts).length := List.length_append
  refine Run.appendRd (news := u8s (tbytes G ev ts)) (nm := (headB G ev ts.length ++ tbytes G ev ts).length) 1 rfl E S rfl rfl rfl rfl rfl Try.underlying22 I5 rfl rfl (S.rd 0 rfl) (u8s_one _) (by simp only [List.length_append]) (by omega) (by omega) ?_; clear E a S; intro A5 c6 w a E S
  rw [u8s_append] at S
  replace S : St _ _ _ [_, _] := S
  refine Run.assign rfl E rfl rfl rfl ?_; clear E a; intro a E
  refine Run.nil ?_
  refine then_n ?_
  refine wp_ret ?_
  have S : St _ _ _ [_, _] := S.sel [0, 1] _ rfl rfl
  have S := S.drop1
  exact ret1 E Try.results24 rfl ⟨A5, c6, rfl, S⟩

theorem packB_len {G ev : Nat} {ts : List Sta} (hok : TapeOK G ev ts) (hlim : ((tbytes G ev ts).length : Int) ≤ 16777216) : (packB G ev ts).length ≤ 16777300 := by
  have hG := hok.g
  have he1 := hok.e1
  have hlen := ts_len hlim
  have hhl := headB_len (G := G) (ev := ev) (n := ts.length) (by omega) (by omega) (by omega)
  unfold packB; rw [List.length_append]; omega

theorem fsame_walk (H : HoldsAll w0 [.obj g 128 [.int .i64 (G : Int), .int .i64 (ev : Int), .int .i64 lim, .slice A ((tbytes G ev ts).length) c, .slice B ((tstarts G ev ts).length) d, .int .i64 ((lastS ts).kind), .int .i64 ((lastS ts).node), .int .i64 ((lastS ts).phase), .int .i64 ((lastS ts).pos), .int .i64 ((lastS ts).start), .int .i64 ((lastS ts).depth), .int .i64 ((lastS ts).org), .slice C ((lastS ts).caps.length) e], .row (.slice A ((tbytes G ev ts).length) c) 5 1 ((tbytes G ev ts).length) (u8s (tbytes G ev ts)), .row (.slice B ((tstarts G ev ts).length) d) 3 1 ((tstarts G ev ts).length) (ints (tstarts G ev ts)), .row (.slice C ((lastS ts).caps.length) e) 3 1 ((lastS ts).caps.length) (ints (lastS ts).caps)]) (hok : TapeOK G ev ts) (hlim : ((tbytes G ev ts).length : Int) ≤ 16777216) (H2 : HoldsAll w0 [.obj g2 128 [.int .i64 (G2 : Int), .int .i64 (ev2 : Int), .int .i64 lim2, .slice A2 ((tbytes G2 ev2 us).length) c2, .slice B2 ((tstarts G2 ev2 us).length) d2, .int .i64 ((lastS us).kind), .int .i64 ((lastS us).node), .int .i64 ((lastS us).phase), .int .i64 ((lastS us).pos), .int .i64 ((lastS us).start), .int .i64 ((lastS us).depth), .int .i64 ((lastS us).org), .slice C2 ((lastS us).caps.length) e2], .row (.slice A2 ((tbytes G2 ev2 us).length) c2) 5 1 ((tbytes G2 ev2 us).length) (u8s (tbytes G2 ev2 us)), .row (.slice B2 ((tstarts G2 ev2 us).length) d2) 3 1 ((tstarts G2 ev2 us).length) (ints (tstarts G2 ev2 us)), .row (.slice C2 ((lastS us).caps.length) e2) 3 1 ((lastS us).caps.length) (ints (lastS us).caps)]) (hok2 : TapeOK G2 ev2 us) (hlim2 : ((tbytes G2 ev2 us).length : Int) ≤ 16777216) : Calls Try.prog 40 [.pointer (some ⟨g, 0, none⟩), .pointer (some ⟨g2, 0, none⟩)].toArray w0 (fun r w' => r = .returned (.bool (decide (packB G ev ts = packB G2 ev2 us))) ∧ Bel w0 w') := by
  have S := St.nil [] w0
  refine fn_start Try.func40 rfl 10 rfl rfl [(0, _), (1, _)] ⟨rfl, rfl, trivial⟩ ?_; intro a E
  refine wp_seq ?_
  refine region_plain (n := 1) [(0, .p)] rfl rfl ?_
  refine Run.assign rfl E rfl rfl rfl ?_; clear E a; intro a E
  refine Run.nil ?_
  refine then_n ?_
  refine wp_seq ?_
  refine region_plain (n := 6) [(0, .p), (1, .e), (2, .p), (3, .e), (4, .e), (5, .p)] rfl rfl ?_
  refine Run.move rfl E rfl rfl rfl ?_; clear E a; intro a E
  refine Run.call (args := [.pointer (some ⟨g, 0, none⟩)]) rfl rfl E rfl rfl Try.func24 nm24 rfl rfl (pack_walk (H.bel S.belT) hok hlim) ?_; rintro e_ w ⟨X1, e2, rfl, S_⟩; refine ⟨_, rfl, (fun _ => S_.belT), ?_⟩; clear E a; intro a E
  replace S : St _ _ _ [_] := St.call (A := []) (R := []) S S_; clear S_
  refine Run.move rfl E rfl rfl rfl ?_; clear E a; intro a E
  refine Run.call (args := [.pointer (some ⟨g2, 0, none⟩)]) rfl rfl E rfl rfl Try.func24 nm24 rfl rfl (pack_walk (H2.bel S.belT) hok2 hlim2) ?_; rintro e_ w ⟨X3, e4, rfl, S_⟩; refine ⟨_, rfl, (fun _ => S_.belT), ?_⟩; clear E a; intro a E
  replace S : St _ _ _ [_, _] := St.call (A := []) (R := [_]) S S_; clear S_
  refine Run.call (args := [.slice X1 ((packB G ev ts).length) e2, .slice X3 ((packB G2 ev2 us).length) e4]) rfl rfl E rfl rfl Try.func89 nm89 rfl rfl (beq_walk (S.rd 1 rfl) (S.rd 0 rfl) (packB_byte _ _ _) (packB_byte _ _ _)) ?_; rintro e_ w ⟨rfl, B_⟩; refine ⟨_, rfl, fun _ => B_, ?_⟩; clear E a; replace S := S.bel B_; intro a E
  clear B_
  refine Run.assign rfl E rfl rfl rfl ?_; clear E a; intro a E
  refine Run.nil ?_
  refine then_n ?_
  refine wp_ret ?_
  exact ret1 E Try.results40 rfl ⟨rfl, S.belT⟩

theorem fnum_bad {r : Nat} (H : Own w0 [.obj r 120 [.slice A b.length c, .int .i64 at_, .bool true]]) (H1 : Rd w0 A b.length 1 (u8s b)) (hb8 : ∀ x ∈ b, x < 256) (hl : b.length ≤ 140737488355328) (hAr : 0 < b.length → ∀ b_ o, A = some ⟨b_, o, none⟩ → b_ ∉ [r]) {most : Int} (hm0 : 0 ≤ most) (hm1 : most ≤ 9223372036854775807)  : Calls Try.prog 82 [.pointer (some ⟨r, 0, none⟩), .int .i64 most].toArray w0 (fun r_ w' => r_ = .returned (.int .i64 0) ∧ St [r] w0 w' [.obj r 120 [.slice A b.length c, .int .i64 at_, .bool true]]) := by
  have S := H.st
  have hgl := getV_le b at_
  refine fn_start Try.func82 rfl 52 rfl rfl [(0, _), (1, _)] ⟨rfl, rfl, trivial⟩ ?_; intro a E
  refine wp_seq ?_
  refine region_plain (n := 1) [(0, .p)] rfl rfl ?_
  refine Run.assign rfl E rfl rfl rfl ?_; clear E a; intro a E
  refine Run.nil ?_
  refine then_n ?_
  refine wp_seq ?_
  refine region_drawS (n := 16) [(0, .p), (1, .p), (2, .p), (4, .p), (5, .p), (6, .p), (3, .t), (7, .t), (8, .e), (9, .p), (10, .p), (11, .p), (12, .p), (13, .p), (14, .p), (15, .p)] [0, 1, 3, 7, 0, 16, 48, 112, 255, 511, 1023, 1023, 1023, 2047, 12287, 32767] S mixed rfl rfl (by kernel_rfl) (fun _ _ _ _ _ h => h) ?_; clear S; intro w S B_; clear B_
  refine Run.move rfl E rfl rfl rfl ?_; clear E a; intro a E
  refine Run.nilCheck rfl E rfl rfl rfl ?_; clear E a; intro a E
  refine Run.fieldAddr rfl E rfl rfl rfl fo120_0 (rfl) ?_; clear E a; intro a E
  refine Run.move rfl E rfl rfl rfl ?_; clear E a; intro a E
  refine Run.nilCheck rfl E rfl rfl rfl ?_; clear E a; intro a E
  refine Run.fieldAddr rfl E rfl rfl rfl fo120_1 (rfl) ?_; clear E a; intro a E
  refine Run.load1 rfl rfl E S rfl rfl rfl one22 (fun _ s => s.objCell 0 0 rfl rfl) ?_; clear E a; intro a E
  refine Run.load1 rfl rfl E S rfl rfl rfl one3 (fun _ s => s.objCell 0 1 rfl rfl) ?_; clear E a; intro a E
  refine Run.call (args := [.slice A b.length c, .int .i64 at_]) rfl rfl E rfl rfl Try.func112 nm112 rfl rfl (get_walk (at_ := at_) (H1.chg S.chg hAr) hb8 hl) ?_; rintro e_ w ⟨rfl, B_⟩; refine ⟨_, rfl, fun _ => B_, ?_⟩; clear E a; replace S := S.bel B_; intro a E
  clear B_
  refine Run.move rfl E rfl rfl rfl ?_; clear E a; intro a E
  refine Run.extract rfl E rfl rfl rfl rfl ?_; clear E a; intro a E
  refine Run.extract rfl E rfl rfl rfl rfl ?_; clear E a; intro a E
  refine Run.extract rfl E rfl rfl rfl rfl ?_; clear E a; intro a E
  refine Run.assign rfl E rfl rfl rfl ?_; clear E a; intro a E
  refine Run.assign rfl E rfl rfl rfl ?_; clear E a; intro a E
  refine Run.assign rfl E rfl rfl rfl ?_; clear E a; intro a E
  refine Run.nil ?_
  refine then_n ?_
  refine wp_seq ?_
  refine wp_seq ?_
  refine region_plain (n := 18) [(0, .p), (1, .p), (2, .p), (3, .p), (4, .l), (5, .p), (6, .p), (7, .p), (8, .p), (9, .p), (10, .p), (11, .p), (12, .p), (13, .p), (14, .p), (15, .p), (16, .p), (17, .l)] rfl rfl ?_
  refine Run.move rfl E rfl rfl rfl ?_; clear E a; intro a E
  refine Run.move rfl E rfl rfl rfl ?_; clear E a; intro a E
  refine Run.nilCheck rfl E rfl rfl rfl ?_; clear E a; intro a E
  refine Run.fieldAddr rfl E rfl rfl rfl fo120_2 (rfl) ?_; clear E a; intro a E
  refine Run.load1 rfl rfl E S rfl rfl rfl one4 (fun _ s => s.objCell 0 2 rfl rfl) ?_; clear E a; intro a E
  refine Run.move rfl E rfl rfl rfl ?_; clear E a; intro a E
  refine Run.off rfl E rfl rfl ?_; clear E a; intro a E
  refine Run.off rfl E rfl rfl ?_; clear E a; intro a E
  refine Run.pickT rfl E rfl rfl rfl rfl ?_; clear E a; intro a E
  refine Run.move rfl E rfl rfl rfl ?_; clear E a; intro a E
  refine Run.off rfl E rfl rfl ?_; clear E a; intro a E
  refine Run.off rfl E rfl rfl ?_; clear E a; intro a E
  refine Run.off rfl E rfl rfl ?_; clear E a; intro a E
  refine Run.off rfl E rfl rfl ?_; clear E a; intro a E
  refine Run.pickT rfl E rfl rfl rfl rfl ?_; clear E a; intro a E
  refine Run.nilCheck rfl E rfl rfl rfl ?_; clear E a; intro a E
  refine Run.fieldAddr rfl E rfl rfl rfl fo120_2 (rfl) ?_; clear E a; intro a E
  refine Run.store (news := [.bool true]) (cs' := [_, _, _]) (hp' := [_]) 0 rfl E S rfl rfl rfl rfl rfl sz4 rfl rfl rfl rfl ?_; clear S; intro w S
  refine Run.nil ?_
  refine then_n ?_
  refine wp_seq ?_
  refine region_plain (n := 4) [(0, .p), (1, .p), (2, .p), (3, .l)] rfl rfl ?_
  refine Run.move rfl E rfl rfl rfl ?_; clear E a; intro a E
  refine Run.nilCheck rfl E rfl rfl rfl ?_; clear E a; intro a E
  refine Run.fieldAddr rfl E rfl rfl rfl fo120_2 (rfl) ?_; clear E a; intro a E
  refine Run.load1 rfl rfl E S rfl rfl rfl one4 (fun _ s => s.objCell 0 2 rfl rfl) ?_; clear E a; intro a E
  refine Run.nil ?_
  refine then_n ?_
  refine cond_T E rfl ?_
  refine wp_seq ?_
  refine region_plain (n := 1) [(0, .p)] rfl rfl ?_
  refine Run.assign rfl E rfl rfl rfl ?_; clear E a; intro a E
  refine Run.nil ?_
  refine then_n ?_
  refine wp_ret ?_
  refine then_r ?_
  exact ret1 E Try.results82 rfl ⟨rfl, S⟩

theorem fnum_err {r : Nat} (H : Own w0 [.obj r 120 [.slice A b.length c, .int .i64 at_, .bool false]]) (H1 : Rd w0 A b.length 1 (u8s b)) (hb8 : ∀ x ∈ b, x < 256) (hl : b.length ≤ 140737488355328) (hAr : 0 < b.length → ∀ b_ o, A = some ⟨b_, o, none⟩ → b_ ∉ [r]) {most : Int} (hm0 : 0 ≤ most) (hm1 : most ≤ 9223372036854775807) (hg : ¬ (getV b at_).2.2 = 0) : Calls Try.prog 82 [.pointer (some ⟨r, 0, none⟩), .int .i64 most].toArray w0 (fun r_ w' => r_ = .returned (.int .i64 0) ∧ St [r] w0 w' [.obj r 120 [.slice A b.length c, .int .i64 at_, .bool true]]) := by
  have S := H.st
  have hgl := getV_le b at_
  refine fn_start Try.func82 rfl 52 rfl rfl [(0, _), (1, _)] ⟨rfl, rfl, trivial⟩ ?_; intro a E
  refine wp_seq ?_
  refine region_plain (n := 1) [(0, .p)] rfl rfl ?_
  refine Run.assign rfl E rfl rfl rfl ?_; clear E a; intro a E
  refine Run.nil ?_
  refine then_n ?_
  refine wp_seq ?_
  refine region_drawS (n := 16) [(0, .p), (1, .p), (2, .p), (4, .p), (5, .p), (6, .p), (3, .t), (7, .t), (8, .e), (9, .p), (10, .p), (11, .p), (12, .p), (13, .p), (14, .p), (15, .p)] [0, 1, 3, 7, 0, 16, 48, 112, 255, 511, 1023, 1023, 1023, 2047, 12287, 32767] S mixed rfl rfl (by kernel_rfl) (fun _ _ _ _ _ h => h) ?_; clear S; intro w S B_; clear B_
  refine Run.move rfl E rfl rfl rfl ?_; clear E a; intro a E
  refine Run.nilCheck rfl E rfl rfl rfl ?_; clear E a; intro a E
  refine Run.fieldAddr rfl E rfl rfl rfl fo120_0 (rfl) ?_; clear E a; intro a E
  refine Run.move rfl E rfl rfl rfl ?_; clear E a; intro a E
  refine Run.nilCheck rfl E rfl rfl rfl ?_; clear E a; intro a E
  refine Run.fieldAddr rfl E rfl rfl rfl fo120_1 (rfl) ?_; clear E a; intro a E
  refine Run.load1 rfl rfl E S rfl rfl rfl one22 (fun _ s => s.objCell 0 0 rfl rfl) ?_; clear E a; intro a E
  refine Run.load1 rfl rfl E S rfl rfl rfl one3 (fun _ s => s.objCell 0 1 rfl rfl) ?_; clear E a; intro a E
  refine Run.call (args := [.slice A b.length c, .int .i64 at_]) rfl rfl E rfl rfl Try.func112 nm112 rfl rfl (get_walk (at_ := at_) (H1.chg S.chg hAr) hb8 hl) ?_; rintro e_ w ⟨rfl, B_⟩; refine ⟨_, rfl, fun _ => B_, ?_⟩; clear E a; replace S := S.bel B_; intro a E
  clear B_
  refine Run.move rfl E rfl rfl rfl ?_; clear E a; intro a E
  refine Run.extract rfl E rfl rfl rfl rfl ?_; clear E a; intro a E
  refine Run.extract rfl E rfl rfl rfl rfl ?_; clear E a; intro a E
  refine Run.extract rfl E rfl rfl rfl rfl ?_; clear E a; intro a E
  refine Run.assign rfl E rfl rfl rfl ?_; clear E a; intro a E
  refine Run.assign rfl E rfl rfl rfl ?_; clear E a; intro a E
  refine Run.assign rfl E rfl rfl rfl ?_; clear E a; intro a E
  refine Run.nil ?_
  refine then_n ?_
  refine wp_seq ?_
  refine wp_seq ?_
  refine region_plain (n := 18) [(0, .p), (1, .p), (2, .p), (3, .p), (4, .l), (5, .p), (6, .p), (7, .p), (8, .p), (9, .p), (10, .p), (11, .p), (12, .p), (13, .p), (14, .p), (15, .p), (16, .p), (17, .l)] rfl rfl ?_
  refine Run.move rfl E rfl rfl rfl ?_; clear E a; intro a E
  refine Run.move rfl E rfl rfl rfl ?_; clear E a; intro a E
  refine Run.nilCheck rfl E rfl rfl rfl ?_; clear E a; intro a E
  refine Run.fieldAddr rfl E rfl rfl rfl fo120_2 (rfl) ?_; clear E a; intro a E
  refine Run.load1 rfl rfl E S rfl rfl rfl one4 (fun _ s => s.objCell 0 2 rfl rfl) ?_; clear E a; intro a E
  refine Run.move rfl E rfl rfl rfl ?_; clear E a; intro a E
  refine Run.move rfl E rfl rfl rfl ?_; clear E a; intro a E
  refine Run.nei rfl E rfl rfl rfl rfl (decide_eq_true (by omega)) ?_; clear E a; intro a E
  refine Run.pickF rfl E rfl rfl rfl rfl ?_; clear E a; intro a E
  refine Run.move rfl E rfl rfl rfl ?_; clear E a; intro a E
  refine Run.off rfl E rfl rfl ?_; clear E a; intro a E
  refine Run.off rfl E rfl rfl ?_; clear E a; intro a E
  refine Run.off rfl E rfl rfl ?_; clear E a; intro a E
  refine Run.off rfl E rfl rfl ?_; clear E a; intro a E
  refine Run.pickT rfl E rfl rfl rfl rfl ?_; clear E a; intro a E
  refine Run.nilCheck rfl E rfl rfl rfl ?_; clear E a; intro a E
  refine Run.fieldAddr rfl E rfl rfl rfl fo120_2 (rfl) ?_; clear E a; intro a E
  refine Run.store (news := [.bool true]) (cs' := [_, _, _]) (hp' := [_]) 0 rfl E S rfl rfl rfl rfl rfl sz4 rfl rfl rfl rfl ?_; clear S; intro w S
  refine Run.nil ?_
  refine then_n ?_
  refine wp_seq ?_
  refine region_plain (n := 4) [(0, .p), (1, .p), (2, .p), (3, .l)] rfl rfl ?_
  refine Run.move rfl E rfl rfl rfl ?_; clear E a; intro a E
  refine Run.nilCheck rfl E rfl rfl rfl ?_; clear E a; intro a E
  refine Run.fieldAddr rfl E rfl rfl rfl fo120_2 (rfl) ?_; clear E a; intro a E
  refine Run.load1 rfl rfl E S rfl rfl rfl one4 (fun _ s => s.objCell 0 2 rfl rfl) ?_; clear E a; intro a E
  refine Run.nil ?_
  refine then_n ?_
  refine cond_T E rfl ?_
  refine wp_seq ?_
  refine region_plain (n := 1) [(0, .p)] rfl rfl ?_
  refine Run.assign rfl E rfl rfl rfl ?_; clear E a; intro a E
  refine Run.nil ?_
  refine then_n ?_
  refine wp_ret ?_
  refine then_r ?_
  exact ret1 E Try.results82 rfl ⟨rfl, S⟩

theorem fnum_big {r : Nat} (H : Own w0 [.obj r 120 [.slice A b.length c, .int .i64 at_, .bool false]]) (H1 : Rd w0 A b.length 1 (u8s b)) (hb8 : ∀ x ∈ b, x < 256) (hl : b.length ≤ 140737488355328) (hAr : 0 < b.length → ∀ b_ o, A = some ⟨b_, o, none⟩ → b_ ∉ [r]) {most : Int} (hm0 : 0 ≤ most) (hm1 : most ≤ 9223372036854775807) (hg : (getV b at_).2.2 = 0) (hm : most < ((getV b at_).1 : Int)) : Calls Try.prog 82 [.pointer (some ⟨r, 0, none⟩), .int .i64 most].toArray w0 (fun r_ w' => r_ = .returned (.int .i64 0) ∧ St [r] w0 w' [.obj r 120 [.slice A b.length c, .int .i64 at_, .bool true]]) := by
  have S := H.st
  have hgl := getV_le b at_
  refine fn_start Try.func82 rfl 52 rfl rfl [(0, _), (1, _)] ⟨rfl, rfl, trivial⟩ ?_; intro a E
  refine wp_seq ?_
  refine region_plain (n := 1) [(0, .p)] rfl rfl ?_
  refine Run.assign rfl E rfl rfl rfl ?_; clear E a; intro a E
  refine Run.nil ?_
  refine then_n ?_
  refine wp_seq ?_
  refine region_drawS (n := 16) [(0, .p), (1, .p), (2, .p), (4, .p), (5, .p), (6, .p), (3, .t), (7, .t), (8, .e), (9, .p), (10, .p), (11, .p), (12, .p), (13, .p), (14, .p), (15, .p)] [0, 1, 3, 7, 0, 16, 48, 112, 255, 511, 1023, 1023, 1023, 2047, 12287, 32767] S mixed rfl rfl (by kernel_rfl) (fun _ _ _ _ _ h => h) ?_; clear S; intro w S B_; clear B_
  refine Run.move rfl E rfl rfl rfl ?_; clear E a; intro a E
  refine Run.nilCheck rfl E rfl rfl rfl ?_; clear E a; intro a E
  refine Run.fieldAddr rfl E rfl rfl rfl fo120_0 (rfl) ?_; clear E a; intro a E
  refine Run.move rfl E rfl rfl rfl ?_; clear E a; intro a E
  refine Run.nilCheck rfl E rfl rfl rfl ?_; clear E a; intro a E
  refine Run.fieldAddr rfl E rfl rfl rfl fo120_1 (rfl) ?_; clear E a; intro a E
  refine Run.load1 rfl rfl E S rfl rfl rfl one22 (fun _ s => s.objCell 0 0 rfl rfl) ?_; clear E a; intro a E
  refine Run.load1 rfl rfl E S rfl rfl rfl one3 (fun _ s => s.objCell 0 1 rfl rfl) ?_; clear E a; intro a E
  refine Run.call (args := [.slice A b.length c, .int .i64 at_]) rfl rfl E rfl rfl Try.func112 nm112 rfl rfl (get_walk (at_ := at_) (H1.chg S.chg hAr) hb8 hl) ?_; rintro e_ w ⟨rfl, B_⟩; refine ⟨_, rfl, fun _ => B_, ?_⟩; clear E a; replace S := S.bel B_; intro a E
  clear B_
  refine Run.move rfl E rfl rfl rfl ?_; clear E a; intro a E
  refine Run.extract rfl E rfl rfl rfl rfl ?_; clear E a; intro a E
  refine Run.extract rfl E rfl rfl rfl rfl ?_; clear E a; intro a E
  refine Run.extract rfl E rfl rfl rfl rfl ?_; clear E a; intro a E
  refine Run.assign rfl E rfl rfl rfl ?_; clear E a; intro a E
  refine Run.assign rfl E rfl rfl rfl ?_; clear E a; intro a E
  refine Run.assign rfl E rfl rfl rfl ?_; clear E a; intro a E
  refine Run.nil ?_
  refine then_n ?_
  refine wp_seq ?_
  refine wp_seq ?_
  refine region_plain (n := 18) [(0, .p), (1, .p), (2, .p), (3, .p), (4, .l), (5, .p), (6, .p), (7, .p), (8, .p), (9, .p), (10, .p), (11, .p), (12, .p), (13, .p), (14, .p), (15, .p), (16, .p), (17, .l)] rfl rfl ?_
  refine Run.move rfl E rfl rfl rfl ?_; clear E a; intro a E
  refine Run.move rfl E rfl rfl rfl ?_; clear E a; intro a E
  refine Run.nilCheck rfl E rfl rfl rfl ?_; clear E a; intro a E
  refine Run.fieldAddr rfl E rfl rfl rfl fo120_2 (rfl) ?_; clear E a; intro a E
  refine Run.load1 rfl rfl E S rfl rfl rfl one4 (fun _ s => s.objCell 0 2 rfl rfl) ?_; clear E a; intro a E
  refine Run.move rfl E rfl rfl rfl ?_; clear E a; intro a E
  refine Run.move rfl E rfl rfl rfl ?_; clear E a; intro a E
  refine Run.nei rfl E rfl rfl rfl rfl (decide_eq_false (by omega)) ?_; clear E a; intro a E
  refine Run.pickF rfl E rfl rfl rfl rfl ?_; clear E a; intro a E
  refine Run.move rfl E rfl rfl rfl ?_; clear E a; intro a E
  refine Run.move rfl E rfl rfl rfl ?_; clear E a; intro a E
  refine Run.move rfl E rfl rfl rfl ?_; clear E a; intro a E
  refine Run.conv rfl E rfl rfl rfl Try.underlying3 Try.underlying145 (u64_ok (by omega)) ?_; clear E a; intro a E
  refine Run.gtr rfl E rfl rfl rfl rfl (decide_eq_true (by omega)) ?_; clear E a; intro a E
  refine Run.pickF rfl E rfl rfl rfl rfl ?_; clear E a; intro a E
  refine Run.nilCheck rfl E rfl rfl rfl ?_; clear E a; intro a E
  refine Run.fieldAddr rfl E rfl rfl rfl fo120_2 (rfl) ?_; clear E a; intro a E
  refine Run.store (news := [.bool true]) (cs' := [_, _, _]) (hp' := [_]) 0 rfl E S rfl rfl rfl rfl rfl sz4 rfl rfl rfl rfl ?_; clear S; intro w S
  refine Run.nil ?_
  refine then_n ?_
  refine wp_seq ?_
  refine region_plain (n := 4) [(0, .p), (1, .p), (2, .p), (3, .l)] rfl rfl ?_
  refine Run.move rfl E rfl rfl rfl ?_; clear E a; intro a E
  refine Run.nilCheck rfl E rfl rfl rfl ?_; clear E a; intro a E
  refine Run.fieldAddr rfl E rfl rfl rfl fo120_2 (rfl) ?_; clear E a; intro a E
  refine Run.load1 rfl rfl E S rfl rfl rfl one4 (fun _ s => s.objCell 0 2 rfl rfl) ?_; clear E a; intro a E
  refine Run.nil ?_
  refine then_n ?_
  refine cond_T E rfl ?_
  refine wp_seq ?_
  refine region_plain (n := 1) [(0, .p)] rfl rfl ?_
  refine Run.assign rfl E rfl rfl rfl ?_; clear E a; intro a E
  refine Run.nil ?_
  refine then_n ?_
  refine wp_ret ?_
  refine then_r ?_
  exact ret1 E Try.results82 rfl ⟨rfl, S⟩

theorem fnum_ok {r : Nat} (H : Own w0 [.obj r 120 [.slice A b.length c, .int .i64 at_, .bool false]]) (H1 : Rd w0 A b.length 1 (u8s b)) (hb8 : ∀ x ∈ b, x < 256) (hl : b.length ≤ 140737488355328) (hAr : 0 < b.length → ∀ b_ o, A = some ⟨b_, o, none⟩ → b_ ∉ [r]) {most : Int} (hm0 : 0 ≤ most) (hm1 : most ≤ 9223372036854775807) (hg : (getV b at_).2.2 = 0) (hm : ¬ most < ((getV b at_).1 : Int)) : Calls Try.prog 82 [.pointer (some ⟨r, 0, none⟩), .int .i64 most].toArray w0 (fun r_ w' => r_ = .returned (.int .i64 ((getV b at_).1 : Int)) ∧ St [r] w0 w' [.obj r 120 [.slice A b.length c, .int .i64 (at_ + ((getV b at_).2.1 : Int)), .bool false]]) := by
  have S := H.st
  have hgl := getV_le b at_
  have hgm := getV_many hg
  refine fn_start Try.func82 rfl 52 rfl rfl [(0, _), (1, _)] ⟨rfl, rfl, trivial⟩ ?_; intro a E
  refine wp_seq ?_
  refine region_plain (n := 1) [(0, .p)] rfl rfl ?_
  refine Run.assign rfl E rfl rfl rfl ?_; clear E a; intro a E
  refine Run.nil ?_
  refine then_n ?_
  refine wp_seq ?_
  refine region_drawS (n := 16) [(0, .p), (1, .p), (2, .p), (4, .p), (5, .p), (6, .p), (3, .t), (7, .t), (8, .e), (9, .p), (10, .p), (11, .p), (12, .p), (13, .p), (14, .p), (15, .p)] [0, 1, 3, 7, 0, 16, 48, 112, 255, 511, 1023, 1023, 1023, 2047, 12287, 32767] S mixed rfl rfl (by kernel_rfl) (fun _ _ _ _ _ h => h) ?_; clear S; intro w S B_; clear B_
  refine Run.move rfl E rfl rfl rfl ?_; clear E a; intro a E
  refine Run.nilCheck rfl E rfl rfl rfl ?_; clear E a; intro a E
  refine Run.fieldAddr rfl E rfl rfl rfl fo120_0 (rfl) ?_; clear E a; intro a E
  refine Run.move rfl E rfl rfl rfl ?_; clear E a; intro a E
  refine Run.nilCheck rfl E rfl rfl rfl ?_; clear E a; intro a E
  refine Run.fieldAddr rfl E rfl rfl rfl fo120_1 (rfl) ?_; clear E a; intro a E
  refine Run.load1 rfl rfl E S rfl rfl rfl one22 (fun _ s => s.objCell 0 0 rfl rfl) ?_; clear E a; intro a E
  refine Run.load1 rfl rfl E S rfl rfl rfl one3 (fun _ s => s.objCell 0 1 rfl rfl) ?_; clear E a; intro a E
  refine Run.call (args := [.slice A b.length c, .int .i64 at_]) rfl rfl E rfl rfl Try.func112 nm112 rfl rfl (get_walk (at_ := at_) (H1.chg S.chg hAr) hb8 hl) ?_; rintro e_ w ⟨rfl, B_⟩; refine ⟨_, rfl, fun _ => B_, ?_⟩; clear E a; replace S := S.bel B_; intro a E
  clear B_
  refine Run.move rfl E rfl rfl rfl ?_; clear E a; intro a E
  refine Run.extract rfl E rfl rfl rfl rfl ?_; clear E a; intro a E
  refine Run.extract rfl E rfl rfl rfl rfl ?_; clear E a; intro a E
  refine Run.extract rfl E rfl rfl rfl rfl ?_; clear E a; intro a E
  refine Run.assign rfl E rfl rfl rfl ?_; clear E a; intro a E
  refine Run.assign rfl E rfl rfl rfl ?_; clear E a; intro a E
  refine Run.assign rfl E rfl rfl rfl ?_; clear E a; intro a E
  refine Run.nil ?_
  refine then_n ?_
  refine wp_seq ?_
  refine wp_seq ?_
  refine region_plain (n := 18) [(0, .p), (1, .p), (2, .p), (3, .p), (4, .l), (5, .p), (6, .p), (7, .p), (8, .p), (9, .p), (10, .p), (11, .p), (12, .p), (13, .p), (14, .p), (15, .p), (16, .p), (17, .l)] rfl rfl ?_
  refine Run.move rfl E rfl rfl rfl ?_; clear E a; intro a E
  refine Run.move rfl E rfl rfl rfl ?_; clear E a; intro a E
  refine Run.nilCheck rfl E rfl rfl rfl ?_; clear E a; intro a E
  refine Run.fieldAddr rfl E rfl rfl rfl fo120_2 (rfl) ?_; clear E a; intro a E
  refine Run.load1 rfl rfl E S rfl rfl rfl one4 (fun _ s => s.objCell 0 2 rfl rfl) ?_; clear E a; intro a E
  refine Run.move rfl E rfl rfl rfl ?_; clear E a; intro a E
  refine Run.move rfl E rfl rfl rfl ?_; clear E a; intro a E
  refine Run.nei rfl E rfl rfl rfl rfl (decide_eq_false (by omega)) ?_; clear E a; intro a E
  refine Run.pickF rfl E rfl rfl rfl rfl ?_; clear E a; intro a E
  refine Run.move rfl E rfl rfl rfl ?_; clear E a; intro a E
  refine Run.move rfl E rfl rfl rfl ?_; clear E a; intro a E
  refine Run.move rfl E rfl rfl rfl ?_; clear E a; intro a E
  refine Run.conv rfl E rfl rfl rfl Try.underlying3 Try.underlying145 (u64_ok (by omega)) ?_; clear E a; intro a E
  refine Run.gtr rfl E rfl rfl rfl rfl (decide_eq_false (by omega)) ?_; clear E a; intro a E
  refine Run.pickF rfl E rfl rfl rfl rfl ?_; clear E a; intro a E
  refine Run.nilCheck rfl E rfl rfl rfl ?_; clear E a; intro a E
  refine Run.fieldAddr rfl E rfl rfl rfl fo120_2 (rfl) ?_; clear E a; intro a E
  refine Run.store (news := [.bool false]) (cs' := [_, _, _]) (hp' := [_]) 0 rfl E S rfl rfl rfl rfl rfl sz4 rfl rfl rfl rfl ?_; clear S; intro w S
  refine Run.nil ?_
  refine then_n ?_
  refine wp_seq ?_
  refine region_plain (n := 4) [(0, .p), (1, .p), (2, .p), (3, .l)] rfl rfl ?_
  refine Run.move rfl E rfl rfl rfl ?_; clear E a; intro a E
  refine Run.nilCheck rfl E rfl rfl rfl ?_; clear E a; intro a E
  refine Run.fieldAddr rfl E rfl rfl rfl fo120_2 (rfl) ?_; clear E a; intro a E
  refine Run.load1 rfl rfl E S rfl rfl rfl one4 (fun _ s => s.objCell 0 2 rfl rfl) ?_; clear E a; intro a E
  refine Run.nil ?_
  refine then_n ?_
  refine cond_F E rfl ?_
  refine wp_skip ?_
  refine then_n ?_
  refine wp_seq ?_
  refine region_plain (n := 9) [(0, .p), (1, .p), (2, .p), (3, .l), (4, .p), (5, .p), (6, .p), (7, .p), (8, .l)] rfl rfl ?_
  refine Run.move rfl E rfl rfl rfl ?_; clear E a; intro a E
  refine Run.nilCheck rfl E rfl rfl rfl ?_; clear E a; intro a E
  refine Run.fieldAddr rfl E rfl rfl rfl fo120_1 (rfl) ?_; clear E a; intro a E
  refine Run.load1 rfl rfl E S rfl rfl rfl one3 (fun _ s => s.objCell 0 1 rfl rfl) ?_; clear E a; intro a E
  refine Run.move rfl E rfl rfl rfl ?_; clear E a; intro a E
  refine Run.add rfl E rfl rfl rfl rfl (i64_ok (by omega)) ?_; clear E a; intro a E
  refine Run.nilCheck rfl E rfl rfl rfl ?_; clear E a; intro a E
  refine Run.fieldAddr rfl E rfl rfl rfl fo120_1 (rfl) ?_; clear E a; intro a E
  refine Run.store (news := [.int .i64 (at_ + ((getV b at_).2.1 : Int))]) (cs' := [_, _, _]) (hp' := [_]) 0 rfl E S rfl rfl rfl rfl rfl sz3 rfl rfl rfl rfl ?_; clear S; intro w S
  refine Run.nil ?_
  refine then_n ?_
  refine wp_seq ?_
  refine region_plain (n := 3) [(0, .p), (1, .p), (2, .p)] rfl rfl ?_
  refine Run.move rfl E rfl rfl rfl ?_; clear E a; intro a E
  refine Run.conv rfl E rfl rfl rfl Try.underlying145 Try.underlying3 (i64_ok (by omega)) ?_; clear E a; intro a E
  refine Run.assign rfl E rfl rfl rfl ?_; clear E a; intro a E
  refine Run.nil ?_
  refine then_n ?_
  refine wp_ret ?_
  exact ret1 E Try.results82 rfl ⟨rfl, S⟩

theorem fnumber_walk {r : Nat} (H : Own w0 [.obj r 120 [.slice A b.length c, .int .i64 at_, .bool (decide (e ≠ 0))]]) (H1 : Rd w0 A b.length 1 (u8s b)) (hb8 : ∀ x ∈ b, x < 256) (hl : b.length ≤ 140737488355328) (hAr : 0 < b.length → ∀ b_ o, A = some ⟨b_, o, none⟩ → b_ ∉ [r]) {most : Int} (hm0 : 0 ≤ most) (hm1 : most ≤ 9223372036854775807) : Calls Try.prog 82 [.pointer (some ⟨r, 0, none⟩), .int .i64 most].toArray w0 (fun r_ w' => r_ = .returned (.int .i64 (numR b at_ e most).2.2) ∧ St [r] w0 w' [.obj r 120 [.slice A b.length c, .int .i64 ((numR b at_ e most).1), .bool (decide ((numR b at_ e most).2.1 ≠ 0))]]) := by
  by_cases he : e = 0
  · subst he
    by_cases hg : (getV b at_).2.2 = 0
    · by_cases hm : most < ((getV b at_).1 : Int)
      · have hs : numR b at_ 0 most = (at_, 11, 0) := by unfold numR; rw [if_neg (by decide), if_neg (by omega), if_pos hm]
        rw [hs]; exact fnum_big H H1 hb8 hl hAr hm0 hm1 hg hm
      · have hs : numR b at_ 0 most = (at_ + ((getV b at_).2.1 : Int), 0, ((getV b at_).1 : Int)) := by unfold numR; rw [if_neg (by decide), if_neg (by omega), if_neg hm]
        rw [hs]; exact fnum_ok H H1 hb8 hl hAr hm0 hm1 hg hm
    · have hs : numR b at_ 0 most = (at_, (getV b at_).2.2, 0) := by unfold numR; rw [if_neg (by decide), if_pos hg]
      rw [hs]; dsimp only; rw [decide_eq_true hg]; exact fnum_err H H1 hb8 hl hAr hm0 hm1 hg
  · rw [decide_eq_true he] at H
    rw [numR_bad he]; dsimp only; rw [decide_eq_true he]
    exact fnum_bad H H1 hb8 hl hAr hm0 hm1

set_option maxHeartbeats 4000000 in
theorem frec_err_b {A0 : Option Addr} {c0 : Nat} {a' : Int} {r : Nat} (H : Own w0 [.obj r 120 [.slice A0 b.length c0, .int .i64 (k : Int), .bool false], .obj g 128 [.int .i64 (G : Int), .int .i64 (ev : Int), .int .i64 lim, .slice A ((tbytes G ev ts).length) c, .slice B ((tstarts G ev ts).length) d, .int .i64 ((lastS ts).kind), .int .i64 ((lastS ts).node), .int .i64 ((lastS ts).phase), .int .i64 ((lastS ts).pos), .int .i64 ((lastS ts).start), .int .i64 ((lastS ts).depth), .int .i64 ((lastS ts).org), .slice C ((lastS ts).caps.length) e], .row (.slice A ((tbytes G ev ts).length) c) 5 1 ((tbytes G ev ts).length) (u8s (tbytes G ev ts)), .row (.slice B ((tstarts G ev ts).length) d) 3 1 ((tstarts G ev ts).length) (ints (tstarts G ev ts)), .row (.slice C ((lastS ts).caps.length) e) 3 1 ((lastS ts).caps.length) (ints (lastS ts).caps)]) (H1 : Rd w0 A0 b.length 1 (u8s b)) (hb8 : ∀ x ∈ b, x < 256) (hl : b.length ≤ 140737488355328) (hAw : 0 < b.length → ∀ b_ o, A0 = some ⟨b_, o, none⟩ → b_ ∉ fps [.obj r 120 [.slice A0 b.length c0, .int .i64 (k : Int), .bool false], .obj g 128 [.int .i64 (G : Int), .int .i64 (ev : Int), .int .i64 lim, .slice A ((tbytes G ev ts).length) c, .slice B ((tstarts G ev ts).length) d, .int .i64 ((lastS ts).kind), .int .i64 ((lastS ts).node), .int .i64 ((lastS ts).phase), .int .i64 ((lastS ts).pos), .int .i64 ((lastS ts).start), .int .i64 ((lastS ts).depth), .int .i64 ((lastS ts).org), .slice C ((lastS ts).caps.length) e], .row (.slice A ((tbytes G ev ts).length) c) 5 1 ((tbytes G ev ts).length) (u8s (tbytes G ev ts)), .row (.slice B ((tstarts G ev ts).length) d) 3 1 ((tstarts G ev ts).length) (ints (tstarts G ev ts)), .row (.slice C ((lastS ts).caps.length) e) 3 1 ((lastS ts).caps.length) (ints (lastS ts).caps)]) (hok : TapeOK G ev ts) (hlim : ((tbytes G ev ts).length : Int) ≤ lim) (hl1 : lim ≤ 16777216) (hk : k ≤ b.length) {pv : Sta} (hpv : pv = prevS G ev ts ts.length) (hm : ts.length % ev = 0) {er : Nat} (h : rdF pv b (k : Int) = (a', er, t)) (he : er ≠ 0) : Calls Try.prog 83 [.pointer (some ⟨r, 0, none⟩), .pointer (some ⟨g, 0, none⟩), .agg #[.int .i64 u.kind, .int .i64 u.node, .int .i64 u.phase, .int .i64 u.pos, .int .i64 u.start, .int .i64 u.depth, .int .i64 u.org, .slice U u.caps.length q]].toArray w0 (fun r_ w' => r_ = .returned (.agg #[.int .i64 0, .int .i64 0, .int .i64 0, .int .i64 0, .int .i64 0, .int .i64 0, .int .i64 0, .slice none 0 0]) ∧ St (fps [.obj r 120 [.slice A0 b.length c0, .int .i64 (k : Int), .bool false], .obj g 128 [.int .i64 (G : Int), .int .i64 (ev : Int), .int .i64 lim, .slice A ((tbytes G ev ts).length) c, .slice B ((tstarts G ev ts).length) d, .int .i64 ((lastS ts).kind), .int .i64 ((lastS ts).node), .int .i64 ((lastS ts).phase), .int .i64 ((lastS ts).pos), .int .i64 ((lastS ts).start), .int .i64 ((lastS ts).depth), .int .i64 ((lastS ts).org), .slice C ((lastS ts).caps.length) e], .row (.slice A ((tbytes G ev ts).length) c) 5 1 ((tbytes G ev ts).length) (u8s (tbytes G ev ts)), .row (.slice B ((tstarts G ev ts).length) d) 3 1 ((tstarts G ev ts).length) (ints (tstarts G ev ts)), .row (.slice C ((lastS ts).caps.length) e) 3 1 ((lastS ts).caps.length) (ints (lastS ts).caps)]) w0 w' [.obj r 120 [.slice A0 b.length c0, .int .i64 (k : Int), .bool true], .obj g 128 [.int .i64 (G : Int), .int .i64 (ev : Int), .int .i64 lim, .slice A ((tbytes G ev ts).length) c, .slice B ((tstarts G ev ts).length) d, .int .i64 ((lastS ts).kind), .int .i64 ((lastS ts).node), .int .i64 ((lastS ts).phase), .int .i64 ((lastS ts).pos), .int .i64 ((lastS ts).start), .int .i64 ((lastS ts).depth), .int .i64 ((lastS ts).org), .slice C ((lastS ts).caps.length) e], .row (.slice A ((tbytes G ev ts).length) c) 5 1 ((tbytes G ev ts).length) (u8s (tbytes G ev ts)), .row (.slice B ((tstarts G ev ts).length) d) 3 1 ((tstarts G ev ts).length) (ints (tstarts G ev ts)), .row (.slice C ((lastS ts).caps.length) e) 3 1 ((lastS ts).caps.length) (ints (lastS ts).caps)]) := by
  have S := H.st
  obtain ⟨p1, p2, p3⟩ := hok.prev (Nat.le_refl ts.length)
  rw [← hpv] at p1 p2 p3
  have hgg := hok.g
  have he0 := hok.e0
  refine fn_start Try.func83 rfl 53 rfl rfl [(0, _), (1, _), (2, _)] ⟨rfl, rfl, rfl, trivial⟩ ?_; intro a E
  refine wp_seq ?_
  refine region_plain (n := 2) [(0, .e), (1, .e)] rfl rfl ?_
  refine Run.box (cs := [.int .i64 u.kind, .int .i64 u.node, .int .i64 u.phase, .int .i64 u.pos, .int .i64 u.start, .int .i64 u.depth, .int .i64 u.org, .slice U u.caps.length q]) rfl rfl E S rfl rfl rfl rfl ?_; clear E a S; intro b1 w a E S B_; clear B_
  refine Run.alloc rfl rfl E S rfl rfl z34 rfl ?_; clear E a S; intro b2 w a E S B_; clear B_
  refine Run.nil ?_
  refine then_n ?_
  refine wp_seq ?_
  refine wp_seq ?_
  refine region_plain (n := 6) [(0, .p), (1, .e), (2, .p), (3, .e), (4, .p), (5, .p)] rfl rfl ?_
  refine Run.move rfl E rfl rfl rfl ?_; clear E a; intro a E
  refine Run.call (args := [.pointer (some ⟨g, 0, none⟩)]) rfl rfl E rfl rfl Try.func38 nm38 rfl rfl (tape_len (St.holdsL (A := [.obj g 128 [.int .i64 (G : Int), .int .i64 (ev : Int), .int .i64 lim, .slice A ((tbytes G ev ts).length) c, .slice B ((tstarts G ev ts).length) d, .int .i64 ((lastS ts).kind), .int .i64 ((lastS ts).node), .int .i64 ((lastS ts).phase), .int .i64 ((lastS ts).pos), .int .i64 ((lastS ts).start), .int .i64 ((lastS ts).depth), .int .i64 ((lastS ts).org), .slice C ((lastS ts).caps.length) e], .row (.slice A ((tbytes G ev ts).length) c) 5 1 ((tbytes G ev ts).length) (u8s (tbytes G ev ts)), .row (.slice B ((tstarts G ev ts).length) d) 3 1 ((tstarts G ev ts).length) (ints (tstarts G ev ts)), .row (.slice C ((lastS ts).caps.length) e) 3 1 ((lastS ts).caps.length) (ints (lastS ts).caps)]) (R := [_, _, _]) (S.sel [3, 4, 5, 6, 0, 1, 2] ([.obj g 128 [.int .i64 (G : Int), .int .i64 (ev : Int), .int .i64 lim, .slice A ((tbytes G ev ts).length) c, .slice B ((tstarts G ev ts).length) d, .int .i64 ((lastS ts).kind), .int .i64 ((lastS ts).node), .int .i64 ((lastS ts).phase), .int .i64 ((lastS ts).pos), .int .i64 ((lastS ts).start), .int .i64 ((lastS ts).depth), .int .i64 ((lastS ts).org), .slice C ((lastS ts).caps.length) e], .row (.slice A ((tbytes G ev ts).length) c) 5 1 ((tbytes G ev ts).length) (u8s (tbytes G ev ts)), .row (.slice B ((tstarts G ev ts).length) d) 3 1 ((tstarts G ev ts).length) (ints (tstarts G ev ts)), .row (.slice C ((lastS ts).caps.length) e) 3 1 ((lastS ts).caps.length) (ints (lastS ts).caps)] ++ [_, _, _]) rfl rfl))) ?_; rintro e_ w ⟨rfl, B_⟩; refine ⟨_, rfl, fun _ => B_, ?_⟩; clear E a; replace S := S.bel B_; intro a E
  clear B_
  refine Run.move rfl E rfl rfl rfl ?_; clear E a; intro a E
  refine Run.call (args := [.pointer (some ⟨g, 0, none⟩)]) rfl rfl E rfl rfl Try.func39 nm39 rfl rfl (tape_every (St.holdsL (A := [.obj g 128 [.int .i64 (G : Int), .int .i64 (ev : Int), .int .i64 lim, .slice A ((tbytes G ev ts).length) c, .slice B ((tstarts G ev ts).length) d, .int .i64 ((lastS ts).kind), .int .i64 ((lastS ts).node), .int .i64 ((lastS ts).phase), .int .i64 ((lastS ts).pos), .int .i64 ((lastS ts).start), .int .i64 ((lastS ts).depth), .int .i64 ((lastS ts).org), .slice C ((lastS ts).caps.length) e], .row (.slice A ((tbytes G ev ts).length) c) 5 1 ((tbytes G ev ts).length) (u8s (tbytes G ev ts)), .row (.slice B ((tstarts G ev ts).length) d) 3 1 ((tstarts G ev ts).length) (ints (tstarts G ev ts)), .row (.slice C ((lastS ts).caps.length) e) 3 1 ((lastS ts).caps.length) (ints (lastS ts).caps)]) (R := [_, _, _]) (S.sel [3, 4, 5, 6, 0, 1, 2] ([.obj g 128 [.int .i64 (G : Int), .int .i64 (ev : Int), .int .i64 lim, .slice A ((tbytes G ev ts).length) c, .slice B ((tstarts G ev ts).length) d, .int .i64 ((lastS ts).kind), .int .i64 ((lastS ts).node), .int .i64 ((lastS ts).phase), .int .i64 ((lastS ts).pos), .int .i64 ((lastS ts).start), .int .i64 ((lastS ts).depth), .int .i64 ((lastS ts).org), .slice C ((lastS ts).caps.length) e], .row (.slice A ((tbytes G ev ts).length) c) 5 1 ((tbytes G ev ts).length) (u8s (tbytes G ev ts)), .row (.slice B ((tstarts G ev ts).length) d) 3 1 ((tstarts G ev ts).length) (ints (tstarts G ev ts)), .row (.slice C ((lastS ts).caps.length) e) 3 1 ((lastS ts).caps.length) (ints (lastS ts).caps)] ++ [_, _, _]) rfl rfl))) ?_; rintro e_ w ⟨rfl, B_⟩; refine ⟨_, rfl, fun _ => B_, ?_⟩; clear E a; replace S := S.bel B_; intro a E
  clear B_
  refine Run.rem rfl E rfl rfl rfl rfl (by omega) (q := ((ts.length % ev : Nat) : Int)) ((rem_nn _ _).trans (by rw [tstarts_len])) ?_; clear E a; intro a E
  refine Run.eqi rfl E rfl rfl rfl rfl (decide_eq_true (by rw [hm]; rfl)) ?_; clear E a; intro a E
  refine Run.nil ?_
  refine then_n ?_
  refine cond_T E rfl ?_
  refine region_plain (n := 4) [(0, .p), (1, .e), (2, .e), (3, .l)] rfl rfl ?_
  refine Run.move rfl E rfl rfl rfl ?_; clear E a; intro a E
  refine Run.call (args := [.pointer (some ⟨g, 0, none⟩)]) rfl rfl E rfl rfl Try.func27 nm27 rfl rfl (tape_groups (St.holdsL (A := [.obj g 128 [.int .i64 (G : Int), .int .i64 (ev : Int), .int .i64 lim, .slice A ((tbytes G ev ts).length) c, .slice B ((tstarts G ev ts).length) d, .int .i64 ((lastS ts).kind), .int .i64 ((lastS ts).node), .int .i64 ((lastS ts).phase), .int .i64 ((lastS ts).pos), .int .i64 ((lastS ts).start), .int .i64 ((lastS ts).depth), .int .i64 ((lastS ts).org), .slice C ((lastS ts).caps.length) e], .row (.slice A ((tbytes G ev ts).length) c) 5 1 ((tbytes G ev ts).length) (u8s (tbytes G ev ts)), .row (.slice B ((tstarts G ev ts).length) d) 3 1 ((tstarts G ev ts).length) (ints (tstarts G ev ts)), .row (.slice C ((lastS ts).caps.length) e) 3 1 ((lastS ts).caps.length) (ints (lastS ts).caps)]) (R := [_, _, _]) (S.sel [3, 4, 5, 6, 0, 1, 2] ([.obj g 128 [.int .i64 (G : Int), .int .i64 (ev : Int), .int .i64 lim, .slice A ((tbytes G ev ts).length) c, .slice B ((tstarts G ev ts).length) d, .int .i64 ((lastS ts).kind), .int .i64 ((lastS ts).node), .int .i64 ((lastS ts).phase), .int .i64 ((lastS ts).pos), .int .i64 ((lastS ts).start), .int .i64 ((lastS ts).depth), .int .i64 ((lastS ts).org), .slice C ((lastS ts).caps.length) e], .row (.slice A ((tbytes G ev ts).length) c) 5 1 ((tbytes G ev ts).length) (u8s (tbytes G ev ts)), .row (.slice B ((tstarts G ev ts).length) d) 3 1 ((tstarts G ev ts).length) (ints (tstarts G ev ts)), .row (.slice C ((lastS ts).caps.length) e) 3 1 ((lastS ts).caps.length) (ints (lastS ts).caps)] ++ [_, _, _]) rfl rfl))) ?_; rintro e_ w ⟨rfl, B_⟩; refine ⟨_, rfl, fun _ => B_, ?_⟩; clear E a; replace S := S.bel B_; intro a E
  clear B_
  refine Run.call (args := [.int .i64 (G : Int)]) rfl rfl E rfl rfl Try.func78 nm78 rfl rfl (blankS_walk (bl := pv) (by rw [hpv, prev_blank hm]) hok.g) ?_; rintro e_ w ⟨P3, q4, rfl, S_⟩; refine ⟨_, rfl, (fun _ => S_.belT), ?_⟩; clear E a; intro a E
  replace S : St _ _ _ [_, .obj _ _ [_, _, _, _, _, _, _, _], .obj _ _ [_, _, _, _, _, _, _, _], .obj _ _ [_, _, _], .obj _ _ [_, _, _, _, _, _, _, _, _, _, _, _, _], _, _, _] := St.call (A := []) (R := [_, _, _, _, _, _, _]) S S_; clear S_
  refine Run.store (news := [.int .i64 pv.kind, .int .i64 pv.node, .int .i64 pv.phase, .int .i64 pv.pos, .int .i64 pv.start, .int .i64 pv.depth, .int .i64 pv.org, .slice P3 pv.caps.length q4]) (cs' := [_, _, _, _, _, _, _, _]) (hp' := [_, _, _, _, _, _, _, _]) 2 rfl E S rfl rfl rfl rfl rfl sz34 rfl rfl rfl rfl ?_; clear S; intro w S
  refine Run.nil ?_
  refine then_n ?_
  refine wp_seq ?_
  refine region_tree (n := 18) (.one 1 .p (.one 2 .p (.one 3 .p (.one 5 .p (.one 6 .p (.one 7 .p (.one 0 .t (.one 4 .t (.one 8 .t (.alt 9 (.one 10 .p (.one 11 .p (.one 12 .p (.one 13 .p (.one 14 .e (.one 15 .l (.one 16 .p (.one 17 .p .done)))))))) (.alt 14 (.one 9 .e (.one 10 .p (.one 11 .p (.one 12 .p (.one 13 .p (.one 15 .l (.one 16 .p (.one 17 .p .done)))))))) .none))))))))))) [0, 0, 2, 6, 14, 0, 32, 96, 224, 511, 1023, 2047, 2047, 2047, 0, 20479, 57343, 131071] S mixed rfl rfl (by kernel_rfl) (fun _ _ _ _ _ h => h) ?_; clear S; intro w S B_; clear B_
  refine RunT.one ?_
  refine Run.move rfl E rfl rfl rfl ?_; clear E a; intro a E
  refine RunT.end ?_
  refine RunT.one ?_
  refine Run.nilCheck rfl E rfl rfl rfl ?_; clear E a; intro a E
  refine RunT.end ?_
  refine RunT.one ?_
  refine Run.fieldAddr rfl E rfl rfl rfl fo120_0 (rfl) ?_; clear E a; intro a E
  refine RunT.end ?_
  refine RunT.one ?_
  refine Run.move rfl E rfl rfl rfl ?_; clear E a; intro a E
  refine RunT.end ?_
  refine RunT.one ?_
  refine Run.nilCheck rfl E rfl rfl rfl ?_; clear E a; intro a E
  refine RunT.end ?_
  refine RunT.one ?_
  refine Run.fieldAddr rfl E rfl rfl rfl fo120_1 (rfl) ?_; clear E a; intro a E
  refine RunT.end ?_
  refine RunT.one ?_
  refine Run.loadN (cs := [.int .i64 pv.kind, .int .i64 pv.node, .int .i64 pv.phase, .int .i64 pv.pos, .int .i64 pv.start, .int .i64 pv.depth, .int .i64 pv.org, .slice P3 pv.caps.length q4]) rfl rfl E S rfl rfl rfl ag34 rfl (fun _ s => objAll s 2 rfl) ?_; clear E a; intro a E
  refine RunT.end ?_
  refine RunT.one ?_
  refine Run.load1 rfl rfl E S rfl rfl rfl one22 (fun _ s => s.objCell 3 0 rfl rfl) ?_; clear E a; intro a E
  refine RunT.end ?_
  refine RunT.one ?_
  refine Run.load1 rfl rfl E S rfl rfl rfl one3 (fun _ s => s.objCell 3 1 rfl rfl) ?_; clear E a; intro a E
  refine RunT.end ?_
  refine RunT.alt ?_ ?_
  · skip
    refine Run.call (args := [.agg #[.int .i64 pv.kind, .int .i64 pv.node, .int .i64 pv.phase, .int .i64 pv.pos, .int .i64 pv.start, .int .i64 pv.depth, .int .i64 pv.org, .slice P3 pv.caps.length q4], .slice A0 b.length c0, .int .i64 (k : Int)]) rfl rfl E rfl rfl Try.func66 nm66 rfl rfl (read_err (t := t) (H1.chg S.chg hAw) hb8 hl (S.rd 0 rfl) p1 (Int.natCast_nonneg _) (by omega) (base_len p1) h he) ?_; rintro e_ w ⟨rfl, B_⟩; refine ⟨_, rfl, fun _ => B_, ?_⟩; clear E a; replace S := S.bel B_; intro a E
    clear B_
    refine RunT.end ?_
    refine RunT.one ?_
    refine Run.move rfl E rfl rfl rfl ?_; clear E a; intro a E
    refine RunT.end ?_
    refine RunT.one ?_
    refine Run.extract rfl E rfl rfl rfl rfl ?_; clear E a; intro a E
    refine RunT.end ?_
    refine RunT.one ?_
    refine Run.extract rfl E rfl rfl rfl rfl ?_; clear E a; intro a E
    refine RunT.end ?_
    refine RunT.one ?_
    refine Run.extract rfl E rfl rfl rfl rfl ?_; clear E a; intro a E
    refine RunT.end ?_
    refine RunT.one ?_
    refine Run.alloc rfl rfl E S rfl rfl z34 rfl ?_; clear E a S; intro b5 w a E S B_; clear B_
    refine RunT.end ?_
    refine RunT.one ?_
    refine Run.store (news := [.int .i64 0, .int .i64 0, .int .i64 0, .int .i64 0, .int .i64 0, .int .i64 0, .int .i64 0, .slice none 0 0]) (cs' := [_, _, _, _, _, _, _, _]) (hp' := [_, _, _, _, _, _, _, _, _]) 0 rfl E S rfl rfl rfl rfl rfl sz34 rfl rfl rfl rfl ?_; clear S; intro w S
    refine RunT.end ?_
    refine RunT.one ?_
    refine Run.assign rfl E rfl rfl rfl ?_; clear E a; intro a E
    refine RunT.end ?_
    refine RunT.one ?_
    refine Run.assign rfl E rfl rfl rfl ?_; clear E a; intro a E
    refine RunT.end ?_
    refine RunT.done ?_
    refine then_n ?_
    refine wp_seq ?_
    refine region_plain (n := 9) [(0, .p), (1, .p), (2, .p), (3, .l), (4, .p), (5, .p), (6, .p), (7, .p), (8, .l)] rfl rfl ?_
    refine Run.move rfl E rfl rfl rfl ?_; clear E a; intro a E
    refine Run.nilCheck rfl E rfl rfl rfl ?_; clear E a; intro a E
    refine Run.fieldAddr rfl E rfl rfl rfl fo120_1 (rfl) ?_; clear E a; intro a E
    refine Run.load1 rfl rfl E S rfl rfl rfl one3 (fun _ s => s.objCell 4 1 rfl rfl) ?_; clear E a; intro a E
    refine Run.move rfl E rfl rfl rfl ?_; clear E a; intro a E
    refine Run.add rfl E rfl rfl rfl rfl (q := ((k : Nat) : Int)) ((i64_ok (by omega)).trans (by omega)) ?_; clear E a; intro a E
    refine Run.nilCheck rfl E rfl rfl rfl ?_; clear E a; intro a E
    refine Run.fieldAddr rfl E rfl rfl rfl fo120_1 (rfl) ?_; clear E a; intro a E
    refine Run.store (news := [.int .i64 ((k : Nat) : Int)]) (cs' := [_, _, _]) (hp' := [_, _, _, _, _, _, _, _, _]) 4 rfl E S rfl rfl rfl rfl rfl sz3 rfl rfl rfl rfl ?_; clear S; intro w S
    refine Run.nil ?_
    refine then_n ?_
    refine wp_seq ?_
    refine region_plain (n := 12) [(0, .p), (1, .p), (2, .p), (3, .p), (4, .p), (5, .l), (6, .e), (7, .p), (8, .p), (9, .p), (10, .p), (11, .l)] rfl rfl ?_
    refine Run.move rfl E rfl rfl rfl ?_; clear E a; intro a E
    refine Run.move rfl E rfl rfl rfl ?_; clear E a; intro a E
    refine Run.nei rfl E rfl rfl rfl rfl (decide_eq_true (by omega)) ?_; clear E a; intro a E
    refine Run.move rfl E rfl rfl rfl ?_; clear E a; intro a E
    refine Run.off rfl E rfl rfl ?_; clear E a; intro a E
    refine Run.off rfl E rfl rfl ?_; clear E a; intro a E
    refine Run.off rfl E rfl rfl ?_; clear E a; intro a E
    refine Run.off rfl E rfl rfl ?_; clear E a; intro a E
    refine Run.pickT rfl E rfl rfl rfl rfl ?_; clear E a; intro a E
    refine Run.nilCheck rfl E rfl rfl rfl ?_; clear E a; intro a E
    refine Run.fieldAddr rfl E rfl rfl rfl fo120_2 (rfl) ?_; clear E a; intro a E
    refine Run.store (news := [.bool true]) (cs' := [_, _, _]) (hp' := [_, _, _, _, _, _, _, _, _]) 4 rfl E S rfl rfl rfl rfl rfl sz4 rfl rfl rfl rfl ?_; clear S; intro w S
    refine Run.nil ?_
    refine then_n ?_
    refine wp_seq ?_
    refine region_plain (n := 2) [(0, .l), (1, .l)] rfl rfl ?_
    refine Run.loadN (cs := [.int .i64 0, .int .i64 0, .int .i64 0, .int .i64 0, .int .i64 0, .int .i64 0, .int .i64 0, .slice none 0 0]) rfl rfl E S rfl rfl rfl ag34 rfl (fun _ s => objAll s 0 rfl) ?_; clear E a; intro a E
    refine Run.store (news := [.int .i64 0, .int .i64 0, .int .i64 0, .int .i64 0, .int .i64 0, .int .i64 0, .int .i64 0, .slice none 0 0]) (cs' := [_, _, _, _, _, _, _, _]) (hp' := [_, _, _, _, _, _, _, _, _]) 2 rfl E S rfl rfl rfl rfl rfl sz34 rfl rfl rfl rfl ?_; clear S; intro w S
    refine Run.nil ?_
    refine then_n ?_
    refine wp_ret ?_
    refine retN E (vs := [.agg #[.int .i64 0, .int .i64 0, .int .i64 0, .int .i64 0, .int .i64 0, .int .i64 0, .int .i64 0, .slice none 0 0]]) Try.results83 (.cell (E.slot _ _ rfl) (run_loadVarAgg ag34 rfl (objAll S 2 rfl)) .nil) rfl ⟨rfl, ?_⟩
    have S : St _ _ _ [_, _, _, _, _, _, _, _, _] := S.sel [0, 1, 2, 3, 4, 5, 6, 7, 8] _ rfl rfl
    have S := S.drop1.drop1.drop1.drop1
    exact S
  · skip
    refine RunT.alt ?_ ?_
    · skip
      refine Run.alloc rfl rfl E S rfl rfl z34 rfl ?_; clear E a S; intro b6 w a E S B_; clear B_
      refine RunT.end ?_
      refine RunT.one ?_
      refine Run.call (args := [.agg #[.int .i64 pv.kind, .int .i64 pv.node, .int .i64 pv.phase, .int .i64 pv.pos, .int .i64 pv.start, .int .i64 pv.depth, .int .i64 pv.org, .slice P3 pv.caps.length q4], .slice A0 b.length c0, .int .i64 (k : Int)]) rfl rfl E rfl rfl Try.func66 nm66 rfl rfl (read_err (t := t) (H1.chg S.chg hAw) hb8 hl (S.rd 1 rfl) p1 (Int.natCast_nonneg _) (by omega) (base_len p1) h he) ?_; rintro e_ w ⟨rfl, B_⟩; refine ⟨_, rfl, fun _ => B_, ?_⟩; clear E a; replace S := S.bel B_; intro a E
      clear B_
      refine RunT.end ?_
      refine RunT.one ?_
      refine Run.move rfl E rfl rfl rfl ?_; clear E a; intro a E
      refine RunT.end ?_
      refine RunT.one ?_
      refine Run.extract rfl E rfl rfl rfl rfl ?_; clear E a; intro a E
      refine RunT.end ?_
      refine RunT.one ?_
      refine Run.extract rfl E rfl rfl rfl rfl ?_; clear E a; intro a E
      refine RunT.end ?_
      refine RunT.one ?_
      refine Run.extract rfl E rfl rfl rfl rfl ?_; clear E a; intro a E
      refine RunT.end ?_
      refine RunT.one ?_
      refine Run.store (news := [.int .i64 0, .int .i64 0, .int .i64 0, .int .i64 0, .int .i64 0, .int .i64 0, .int .i64 0, .slice none 0 0]) (cs' := [_, _, _, _, _, _, _, _]) (hp' := [_, _, _, _, _, _, _, _, _]) 0 rfl E S rfl rfl rfl rfl rfl sz34 rfl rfl rfl rfl ?_; clear S; intro w S
      refine RunT.end ?_
      refine RunT.one ?_
      refine Run.assign rfl E rfl rfl rfl ?_; clear E a; intro a E
      refine RunT.end ?_
      refine RunT.one ?_
      refine Run.assign rfl E rfl rfl rfl ?_; clear E a; intro a E
      refine RunT.end ?_
      refine RunT.done ?_
      refine then_n ?_
      refine wp_seq ?_
      refine region_plain (n := 9) [(0, .p), (1, .p), (2, .p), (3, .l), (4, .p), (5, .p), (6, .p), (7, .p), (8, .l)] rfl rfl ?_
      refine Run.move rfl E rfl rfl rfl ?_; clear E a; intro a E
      refine Run.nilCheck rfl E rfl rfl rfl ?_; clear E a; intro a E
      refine Run.fieldAddr rfl E rfl rfl rfl fo120_1 (rfl) ?_; clear E a; intro a E
      refine Run.load1 rfl rfl E S rfl rfl rfl one3 (fun _ s => s.objCell 4 1 rfl rfl) ?_; clear E a; intro a E
      refine Run.move rfl E rfl rfl rfl ?_; clear E a; intro a E
      refine Run.add rfl E rfl rfl rfl rfl (q := ((k : Nat) : Int)) ((i64_ok (by omega)).trans (by omega)) ?_; clear E a; intro a E
      refine Run.nilCheck rfl E rfl rfl rfl ?_; clear E a; intro a E
      refine Run.fieldAddr rfl E rfl rfl rfl fo120_1 (rfl) ?_; clear E a; intro a E
      refine Run.store (news := [.int .i64 ((k : Nat) : Int)]) (cs' := [_, _, _]) (hp' := [_, _, _, _, _, _, _, _, _]) 4 rfl E S rfl rfl rfl rfl rfl sz3 rfl rfl rfl rfl ?_; clear S; intro w S
      refine Run.nil ?_
      refine then_n ?_
      refine wp_seq ?_
      refine region_plain (n := 12) [(0, .p), (1, .p), (2, .p), (3, .p), (4, .p), (5, .l), (6, .e), (7, .p), (8, .p), (9, .p), (10, .p), (11, .l)] rfl rfl ?_
      refine Run.move rfl E rfl rfl rfl ?_; clear E a; intro a E
      refine Run.move rfl E rfl rfl rfl ?_; clear E a; intro a E
      refine Run.nei rfl E rfl rfl rfl rfl (decide_eq_true (by omega)) ?_; clear E a; intro a E
      refine Run.move rfl E rfl rfl rfl ?_; clear E a; intro a E
      refine Run.off rfl E rfl rfl ?_; clear E a; intro a E
      refine Run.off rfl E rfl rfl ?_; clear E a; intro a E
      refine Run.off rfl E rfl rfl ?_; clear E a; intro a E
      refine Run.off rfl E rfl rfl ?_; clear E a; intro a E
      refine Run.pickT rfl E rfl rfl rfl rfl ?_; clear E a; intro a E
      refine Run.nilCheck rfl E rfl rfl rfl ?_; clear E a; intro a E
      refine Run.fieldAddr rfl E rfl rfl rfl fo120_2 (rfl) ?_; clear E a; intro a E
      refine Run.store (news := [.bool true]) (cs' := [_, _, _]) (hp' := [_, _, _, _, _, _, _, _, _]) 4 rfl E S rfl rfl rfl rfl rfl sz4 rfl rfl rfl rfl ?_; clear S; intro w S
      refine Run.nil ?_
      refine then_n ?_
      refine wp_seq ?_
      refine region_plain (n := 2) [(0, .l), (1, .l)] rfl rfl ?_
      refine Run.loadN (cs := [.int .i64 0, .int .i64 0, .int .i64 0, .int .i64 0, .int .i64 0, .int .i64 0, .int .i64 0, .slice none 0 0]) rfl rfl E S rfl rfl rfl ag34 rfl (fun _ s => objAll s 0 rfl) ?_; clear E a; intro a E
      refine Run.store (news := [.int .i64 0, .int .i64 0, .int .i64 0, .int .i64 0, .int .i64 0, .int .i64 0, .int .i64 0, .slice none 0 0]) (cs' := [_, _, _, _, _, _, _, _]) (hp' := [_, _, _, _, _, _, _, _, _]) 2 rfl E S rfl rfl rfl rfl rfl sz34 rfl rfl rfl rfl ?_; clear S; intro w S
      refine Run.nil ?_
      refine then_n ?_
      refine wp_ret ?_
      refine retN E (vs := [.agg #[.int .i64 0, .int .i64 0, .int .i64 0, .int .i64 0, .int .i64 0, .int .i64 0, .int .i64 0, .slice none 0 0]]) Try.results83 (.cell (E.slot _ _ rfl) (run_loadVarAgg ag34 rfl (objAll S 2 rfl)) .nil) rfl ⟨rfl, ?_⟩
      have S : St _ _ _ [_, _, _, _, _, _, _, _, _] := S.sel [0, 1, 2, 3, 4, 5, 6, 7, 8] _ rfl rfl
      have S := S.drop1.drop1.drop1.drop1
      exact S
    · skip
      exact RunT.none

set_option maxHeartbeats 4000000 in
theorem frec_nor_b {A0 : Option Addr} {c0 : Nat} {a' : Int} {r : Nat} (H : Own w0 [.obj r 120 [.slice A0 b.length c0, .int .i64 (k : Int), .bool false], .obj g 128 [.int .i64 (G : Int), .int .i64 (ev : Int), .int .i64 lim, .slice A ((tbytes G ev ts).length) c, .slice B ((tstarts G ev ts).length) d, .int .i64 ((lastS ts).kind), .int .i64 ((lastS ts).node), .int .i64 ((lastS ts).phase), .int .i64 ((lastS ts).pos), .int .i64 ((lastS ts).start), .int .i64 ((lastS ts).depth), .int .i64 ((lastS ts).org), .slice C ((lastS ts).caps.length) e], .row (.slice A ((tbytes G ev ts).length) c) 5 1 ((tbytes G ev ts).length) (u8s (tbytes G ev ts)), .row (.slice B ((tstarts G ev ts).length) d) 3 1 ((tstarts G ev ts).length) (ints (tstarts G ev ts)), .row (.slice C ((lastS ts).caps.length) e) 3 1 ((lastS ts).caps.length) (ints (lastS ts).caps)]) (H1 : Rd w0 A0 b.length 1 (u8s b)) (hb8 : ∀ x ∈ b, x < 256) (hl : b.length ≤ 140737488355328) (hAw : 0 < b.length → ∀ b_ o, A0 = some ⟨b_, o, none⟩ → b_ ∉ fps [.obj r 120 [.slice A0 b.length c0, .int .i64 (k : Int), .bool false], .obj g 128 [.int .i64 (G : Int), .int .i64 (ev : Int), .int .i64 lim, .slice A ((tbytes G ev ts).length) c, .slice B ((tstarts G ev ts).length) d, .int .i64 ((lastS ts).kind), .int .i64 ((lastS ts).node), .int .i64 ((lastS ts).phase), .int .i64 ((lastS ts).pos), .int .i64 ((lastS ts).start), .int .i64 ((lastS ts).depth), .int .i64 ((lastS ts).org), .slice C ((lastS ts).caps.length) e], .row (.slice A ((tbytes G ev ts).length) c) 5 1 ((tbytes G ev ts).length) (u8s (tbytes G ev ts)), .row (.slice B ((tstarts G ev ts).length) d) 3 1 ((tstarts G ev ts).length) (ints (tstarts G ev ts)), .row (.slice C ((lastS ts).caps.length) e) 3 1 ((lastS ts).caps.length) (ints (lastS ts).caps)]) (hok : TapeOK G ev ts) (hlim : ((tbytes G ev ts).length : Int) ≤ lim) (hl1 : lim ≤ 16777216) (hk : k ≤ b.length) {pv : Sta} (hpv : pv = prevS G ev ts ts.length) (hm : ts.length % ev = 0) (h : rdF pv b (k : Int) = (a', 0, t)) (hR : ¬ t.Right (G : Int)) : Calls Try.prog 83 [.pointer (some ⟨r, 0, none⟩), .pointer (some ⟨g, 0, none⟩), .agg #[.int .i64 u.kind, .int .i64 u.node, .int .i64 u.phase, .int .i64 u.pos, .int .i64 u.start, .int .i64 u.depth, .int .i64 u.org, .slice U u.caps.length q]].toArray w0 (fun r_ w' => r_ = .returned (.agg #[.int .i64 0, .int .i64 0, .int .i64 0, .int .i64 0, .int .i64 0, .int .i64 0, .int .i64 0, .slice none 0 0]) ∧ St (fps [.obj r 120 [.slice A0 b.length c0, .int .i64 (k : Int), .bool false], .obj g 128 [.int .i64 (G : Int), .int .i64 (ev : Int), .int .i64 lim, .slice A ((tbytes G ev ts).length) c, .slice B ((tstarts G ev ts).length) d, .int .i64 ((lastS ts).kind), .int .i64 ((lastS ts).node), .int .i64 ((lastS ts).phase), .int .i64 ((lastS ts).pos), .int .i64 ((lastS ts).start), .int .i64 ((lastS ts).depth), .int .i64 ((lastS ts).org), .slice C ((lastS ts).caps.length) e], .row (.slice A ((tbytes G ev ts).length) c) 5 1 ((tbytes G ev ts).length) (u8s (tbytes G ev ts)), .row (.slice B ((tstarts G ev ts).length) d) 3 1 ((tstarts G ev ts).length) (ints (tstarts G ev ts)), .row (.slice C ((lastS ts).caps.length) e) 3 1 ((lastS ts).caps.length) (ints (lastS ts).caps)]) w0 w' [.obj r 120 [.slice A0 b.length c0, .int .i64 (k : Int), .bool true], .obj g 128 [.int .i64 (G : Int), .int .i64 (ev : Int), .int .i64 lim, .slice A ((tbytes G ev ts).length) c, .slice B ((tstarts G ev ts).length) d, .int .i64 ((lastS ts).kind), .int .i64 ((lastS ts).node), .int .i64 ((lastS ts).phase), .int .i64 ((lastS ts).pos), .int .i64 ((lastS ts).start), .int .i64 ((lastS ts).depth), .int .i64 ((lastS ts).org), .slice C ((lastS ts).caps.length) e], .row (.slice A ((tbytes G ev ts).length) c) 5 1 ((tbytes G ev ts).length) (u8s (tbytes G ev ts)), .row (.slice B ((tstarts G ev ts).length) d) 3 1 ((tstarts G ev ts).length) (ints (tstarts G ev ts)), .row (.slice C ((lastS ts).caps.length) e) 3 1 ((lastS ts).caps.length) (ints (lastS ts).caps)]) := by
  have S := H.st
  obtain ⟨p1, p2, p3⟩ := hok.prev (Nat.le_refl ts.length)
  rw [← hpv] at p1 p2 p3
  have hgg := hok.g
  have he0 := hok.e0
  refine fn_start Try.func83 rfl 53 rfl rfl [(0, _), (1, _), (2, _)] ⟨rfl, rfl, rfl, trivial⟩ ?_; intro a E
  refine wp_seq ?_
  refine region_plain (n := 2) [(0, .e), (1, .e)] rfl rfl ?_
  refine Run.box (cs := [.int .i64 u.kind, .int .i64 u.node, .int .i64 u.phase, .int .i64 u.pos, .int .i64 u.start, .int .i64 u.depth, .int .i64 u.org, .slice U u.caps.length q]) rfl rfl E S rfl rfl rfl rfl ?_; clear E a S; intro b1 w a E S B_; clear B_
  refine Run.alloc rfl rfl E S rfl rfl z34 rfl ?_; clear E a S; intro b2 w a E S B_; clear B_
  refine Run.nil ?_
  refine then_n ?_
  refine wp_seq ?_
  refine wp_seq ?_
  refine region_plain (n := 6) [(0, .p), (1, .e), (2, .p), (3, .e), (4, .p), (5, .p)] rfl rfl ?_
  refine Run.move rfl E rfl rfl rfl ?_; clear E a; intro a E
  refine Run.call (args := [.pointer (some ⟨g, 0, none⟩)]) rfl rfl E rfl rfl Try.func38 nm38 rfl rfl (tape_len (St.holdsL (A := [.obj g 128 [.int .i64 (G : Int), .int .i64 (ev : Int), .int .i64 lim, .slice A ((tbytes G ev ts).length) c, .slice B ((tstarts G ev ts).length) d, .int .i64 ((lastS ts).kind), .int .i64 ((lastS ts).node), .int .i64 ((lastS ts).phase), .int .i64 ((lastS ts).pos), .int .i64 ((lastS ts).start), .int .i64 ((lastS ts).depth), .int .i64 ((lastS ts).org), .slice C ((lastS ts).caps.length) e], .row (.slice A ((tbytes G ev ts).length) c) 5 1 ((tbytes G ev ts).length) (u8s (tbytes G ev ts)), .row (.slice B ((tstarts G ev ts).length) d) 3 1 ((tstarts G ev ts).length) (ints (tstarts G ev ts)), .row (.slice C ((lastS ts).caps.length) e) 3 1 ((lastS ts).caps.length) (ints (lastS ts).caps)]) (R := [_, _, _]) (S.sel [3, 4, 5, 6, 0, 1, 2] ([.obj g 128 [.int .i64 (G : Int), .int .i64 (ev : Int), .int .i64 lim, .slice A ((tbytes G ev ts).length) c, .slice B ((tstarts G ev ts).length) d, .int .i64 ((lastS ts).kind), .int .i64 ((lastS ts).node), .int .i64 ((lastS ts).phase), .int .i64 ((lastS ts).pos), .int .i64 ((lastS ts).start), .int .i64 ((lastS ts).depth), .int .i64 ((lastS ts).org), .slice C ((lastS ts).caps.length) e], .row (.slice A ((tbytes G ev ts).length) c) 5 1 ((tbytes G ev ts).length) (u8s (tbytes G ev ts)), .row (.slice B ((tstarts G ev ts).length) d) 3 1 ((tstarts G ev ts).length) (ints (tstarts G ev ts)), .row (.slice C ((lastS ts).caps.length) e) 3 1 ((lastS ts).caps.length) (ints (lastS ts).caps)] ++ [_, _, _]) rfl rfl))) ?_; rintro e_ w ⟨rfl, B_⟩; refine ⟨_, rfl, fun _ => B_, ?_⟩; clear E a; replace S := S.bel B_; intro a E
  clear B_
  refine Run.move rfl E rfl rfl rfl ?_; clear E a; intro a E
  refine Run.call (args := [.pointer (some ⟨g, 0, none⟩)]) rfl rfl E rfl rfl Try.func39 nm39 rfl rfl (tape_every (St.holdsL (A := [.obj g 128 [.int .i64 (G : Int), .int .i64 (ev : Int), .int .i64 lim, .slice A ((tbytes G ev ts).length) c, .slice B ((tstarts G ev ts).length) d, .int .i64 ((lastS ts).kind), .int .i64 ((lastS ts).node), .int .i64 ((lastS ts).phase), .int .i64 ((lastS ts).pos), .int .i64 ((lastS ts).start), .int .i64 ((lastS ts).depth), .int .i64 ((lastS ts).org), .slice C ((lastS ts).caps.length) e], .row (.slice A ((tbytes G ev ts).length) c) 5 1 ((tbytes G ev ts).length) (u8s (tbytes G ev ts)), .row (.slice B ((tstarts G ev ts).length) d) 3 1 ((tstarts G ev ts).length) (ints (tstarts G ev ts)), .row (.slice C ((lastS ts).caps.length) e) 3 1 ((lastS ts).caps.length) (ints (lastS ts).caps)]) (R := [_, _, _]) (S.sel [3, 4, 5, 6, 0, 1, 2] ([.obj g 128 [.int .i64 (G : Int), .int .i64 (ev : Int), .int .i64 lim, .slice A ((tbytes G ev ts).length) c, .slice B ((tstarts G ev ts).length) d, .int .i64 ((lastS ts).kind), .int .i64 ((lastS ts).node), .int .i64 ((lastS ts).phase), .int .i64 ((lastS ts).pos), .int .i64 ((lastS ts).start), .int .i64 ((lastS ts).depth), .int .i64 ((lastS ts).org), .slice C ((lastS ts).caps.length) e], .row (.slice A ((tbytes G ev ts).length) c) 5 1 ((tbytes G ev ts).length) (u8s (tbytes G ev ts)), .row (.slice B ((tstarts G ev ts).length) d) 3 1 ((tstarts G ev ts).length) (ints (tstarts G ev ts)), .row (.slice C ((lastS ts).caps.length) e) 3 1 ((lastS ts).caps.length) (ints (lastS ts).caps)] ++ [_, _, _]) rfl rfl))) ?_; rintro e_ w ⟨rfl, B_⟩; refine ⟨_, rfl, fun _ => B_, ?_⟩; clear E a; replace S := S.bel B_; intro a E
  clear B_
  refine Run.rem rfl E rfl rfl rfl rfl (by omega) (q := ((ts.length % ev : Nat) : Int)) ((rem_nn _ _).trans (by rw [tstarts_len])) ?_; clear E a; intro a E
  refine Run.eqi rfl E rfl rfl rfl rfl (decide_eq_true (by rw [hm]; rfl)) ?_; clear E a; intro a E
  refine Run.nil ?_
  refine then_n ?_
  refine cond_T E rfl ?_
  refine region_plain (n := 4) [(0, .p), (1, .e), (2, .e), (3, .l)] rfl rfl ?_
  refine Run.move rfl E rfl rfl rfl ?_; clear E a; intro a E
  refine Run.call (args := [.pointer (some ⟨g, 0, none⟩)]) rfl rfl E rfl rfl Try.func27 nm27 rfl rfl (tape_groups (St.holdsL (A := [.obj g 128 [.int .i64 (G : Int), .int .i64 (ev : Int), .int .i64 lim, .slice A ((tbytes G ev ts).length) c, .slice B ((tstarts G ev ts).length) d, .int .i64 ((lastS ts).kind), .int .i64 ((lastS ts).node), .int .i64 ((lastS ts).phase), .int .i64 ((lastS ts).pos), .int .i64 ((lastS ts).start), .int .i64 ((lastS ts).depth), .int .i64 ((lastS ts).org), .slice C ((lastS ts).caps.length) e], .row (.slice A ((tbytes G ev ts).length) c) 5 1 ((tbytes G ev ts).length) (u8s (tbytes G ev ts)), .row (.slice B ((tstarts G ev ts).length) d) 3 1 ((tstarts G ev ts).length) (ints (tstarts G ev ts)), .row (.slice C ((lastS ts).caps.length) e) 3 1 ((lastS ts).caps.length) (ints (lastS ts).caps)]) (R := [_, _, _]) (S.sel [3, 4, 5, 6, 0, 1, 2] ([.obj g 128 [.int .i64 (G : Int), .int .i64 (ev : Int), .int .i64 lim, .slice A ((tbytes G ev ts).length) c, .slice B ((tstarts G ev ts).length) d, .int .i64 ((lastS ts).kind), .int .i64 ((lastS ts).node), .int .i64 ((lastS ts).phase), .int .i64 ((lastS ts).pos), .int .i64 ((lastS ts).start), .int .i64 ((lastS ts).depth), .int .i64 ((lastS ts).org), .slice C ((lastS ts).caps.length) e], .row (.slice A ((tbytes G ev ts).length) c) 5 1 ((tbytes G ev ts).length) (u8s (tbytes G ev ts)), .row (.slice B ((tstarts G ev ts).length) d) 3 1 ((tstarts G ev ts).length) (ints (tstarts G ev ts)), .row (.slice C ((lastS ts).caps.length) e) 3 1 ((lastS ts).caps.length) (ints (lastS ts).caps)] ++ [_, _, _]) rfl rfl))) ?_; rintro e_ w ⟨rfl, B_⟩; refine ⟨_, rfl, fun _ => B_, ?_⟩; clear E a; replace S := S.bel B_; intro a E
  clear B_
  refine Run.call (args := [.int .i64 (G : Int)]) rfl rfl E rfl rfl Try.func78 nm78 rfl rfl (blankS_walk (bl := pv) (by rw [hpv, prev_blank hm]) hok.g) ?_; rintro e_ w ⟨P3, q4, rfl, S_⟩; refine ⟨_, rfl, (fun _ => S_.belT), ?_⟩; clear E a; intro a E
  replace S : St _ _ _ [_, .obj _ _ [_, _, _, _, _, _, _, _], .obj _ _ [_, _, _, _, _, _, _, _], .obj _ _ [_, _, _], .obj _ _ [_, _, _, _, _, _, _, _, _, _, _, _, _], _, _, _] := St.call (A := []) (R := [_, _, _, _, _, _, _]) S S_; clear S_
  refine Run.store (news := [.int .i64 pv.kind, .int .i64 pv.node, .int .i64 pv.phase, .int .i64 pv.pos, .int .i64 pv.start, .int .i64 pv.depth, .int .i64 pv.org, .slice P3 pv.caps.length q4]) (cs' := [_, _, _, _, _, _, _, _]) (hp' := [_, _, _, _, _, _, _, _]) 2 rfl E S rfl rfl rfl rfl rfl sz34 rfl rfl rfl rfl ?_; clear S; intro w S
  refine Run.nil ?_
  refine then_n ?_
  refine wp_seq ?_
  refine region_tree (n := 18) (.one 1 .p (.one 2 .p (.one 3 .p (.one 5 .p (.one 6 .p (.one 7 .p (.one 0 .t (.one 4 .t (.one 8 .t (.alt 9 (.one 10 .p (.one 11 .p (.one 12 .p (.one 13 .p (.one 14 .e (.one 15 .l (.one 16 .p (.one 17 .p .done)))))))) (.alt 14 (.one 9 .e (.one 10 .p (.one 11 .p (.one 12 .p (.one 13 .p (.one 15 .l (.one 16 .p (.one 17 .p .done)))))))) .none))))))))))) [0, 0, 2, 6, 14, 0, 32, 96, 224, 511, 1023, 2047, 2047, 2047, 0, 20479, 57343, 131071] S mixed rfl rfl (by kernel_rfl) (fun _ _ _ _ _ h => h) ?_; clear S; intro w S B_; clear B_
  refine RunT.one ?_
  refine Run.move rfl E rfl rfl rfl ?_; clear E a; intro a E
  refine RunT.end ?_
  refine RunT.one ?_
  refine Run.nilCheck rfl E rfl rfl rfl ?_; clear E a; intro a E
  refine RunT.end ?_
  refine RunT.one ?_
  refine Run.fieldAddr rfl E rfl rfl rfl fo120_0 (rfl) ?_; clear E a; intro a E
  refine RunT.end ?_
  refine RunT.one ?_
  refine Run.move rfl E rfl rfl rfl ?_; clear E a; intro a E
  refine RunT.end ?_
  refine RunT.one ?_
  refine Run.nilCheck rfl E rfl rfl rfl ?_; clear E a; intro a E
  refine RunT.end ?_
  refine RunT.one ?_
  refine Run.fieldAddr rfl E rfl rfl rfl fo120_1 (rfl) ?_; clear E a; intro a E
  refine RunT.end ?_
  refine RunT.one ?_
  refine Run.loadN (cs := [.int .i64 pv.kind, .int .i64 pv.node, .int .i64 pv.phase, .int .i64 pv.pos, .int .i64 pv.start, .int .i64 pv.depth, .int .i64 pv.org, .slice P3 pv.caps.length q4]) rfl rfl E S rfl rfl rfl ag34 rfl (fun _ s => objAll s 2 rfl) ?_; clear E a; intro a E
  refine RunT.end ?_
  refine RunT.one ?_
  refine Run.load1 rfl rfl E S rfl rfl rfl one22 (fun _ s => s.objCell 3 0 rfl rfl) ?_; clear E a; intro a E
  refine RunT.end ?_
  refine RunT.one ?_
  refine Run.load1 rfl rfl E S rfl rfl rfl one3 (fun _ s => s.objCell 3 1 rfl rfl) ?_; clear E a; intro a E
  refine RunT.end ?_
  refine RunT.alt ?_ ?_
  · skip
    refine Run.call (args := [.agg #[.int .i64 pv.kind, .int .i64 pv.node, .int .i64 pv.phase, .int .i64 pv.pos, .int .i64 pv.start, .int .i64 pv.depth, .int .i64 pv.org, .slice P3 pv.caps.length q4], .slice A0 b.length c0, .int .i64 (k : Int)]) rfl rfl E rfl rfl Try.func66 nm66 rfl rfl (read_nor (t := t) (H1.chg S.chg hAw) hb8 hl (S.rd 0 rfl) p1 (Int.natCast_nonneg _) (by omega) (base_len p1) h (by rw [p2]; exact hR)) ?_; rintro e_ w ⟨rfl, B_⟩; refine ⟨_, rfl, fun _ => B_, ?_⟩; clear E a; replace S := S.bel B_; intro a E
    clear B_
    refine RunT.end ?_
    refine RunT.one ?_
    refine Run.move rfl E rfl rfl rfl ?_; clear E a; intro a E
    refine RunT.end ?_
    refine RunT.one ?_
    refine Run.extract rfl E rfl rfl rfl rfl ?_; clear E a; intro a E
    refine RunT.end ?_
    refine RunT.one ?_
    refine Run.extract rfl E rfl rfl rfl rfl ?_; clear E a; intro a E
    refine RunT.end ?_
    refine RunT.one ?_
    refine Run.extract rfl E rfl rfl rfl rfl ?_; clear E a; intro a E
    refine RunT.end ?_
    refine RunT.one ?_
    refine Run.alloc rfl rfl E S rfl rfl z34 rfl ?_; clear E a S; intro b5 w a E S B_; clear B_
    refine RunT.end ?_
    refine RunT.one ?_
    refine Run.store (news := [.int .i64 0, .int .i64 0, .int .i64 0, .int .i64 0, .int .i64 0, .int .i64 0, .int .i64 0, .slice none 0 0]) (cs' := [_, _, _, _, _, _, _, _]) (hp' := [_, _, _, _, _, _, _, _, _]) 0 rfl E S rfl rfl rfl rfl rfl sz34 rfl rfl rfl rfl ?_; clear S; intro w S
    refine RunT.end ?_
    refine RunT.one ?_
    refine Run.assign rfl E rfl rfl rfl ?_; clear E a; intro a E
    refine RunT.end ?_
    refine RunT.one ?_
    refine Run.assign rfl E rfl rfl rfl ?_; clear E a; intro a E
    refine RunT.end ?_
    refine RunT.done ?_
    refine then_n ?_
    refine wp_seq ?_
    refine region_plain (n := 9) [(0, .p), (1, .p), (2, .p), (3, .l), (4, .p), (5, .p), (6, .p), (7, .p), (8, .l)] rfl rfl ?_
    refine Run.move rfl E rfl rfl rfl ?_; clear E a; intro a E
    refine Run.nilCheck rfl E rfl rfl rfl ?_; clear E a; intro a E
    refine Run.fieldAddr rfl E rfl rfl rfl fo120_1 (rfl) ?_; clear E a; intro a E
    refine Run.load1 rfl rfl E S rfl rfl rfl one3 (fun _ s => s.objCell 4 1 rfl rfl) ?_; clear E a; intro a E
    refine Run.move rfl E rfl rfl rfl ?_; clear E a; intro a E
    refine Run.add rfl E rfl rfl rfl rfl (q := ((k : Nat) : Int)) ((i64_ok (by omega)).trans (by omega)) ?_; clear E a; intro a E
    refine Run.nilCheck rfl E rfl rfl rfl ?_; clear E a; intro a E
    refine Run.fieldAddr rfl E rfl rfl rfl fo120_1 (rfl) ?_; clear E a; intro a E
    refine Run.store (news := [.int .i64 ((k : Nat) : Int)]) (cs' := [_, _, _]) (hp' := [_, _, _, _, _, _, _, _, _]) 4 rfl E S rfl rfl rfl rfl rfl sz3 rfl rfl rfl rfl ?_; clear S; intro w S
    refine Run.nil ?_
    refine then_n ?_
    refine wp_seq ?_
    refine region_plain (n := 12) [(0, .p), (1, .p), (2, .p), (3, .p), (4, .p), (5, .l), (6, .e), (7, .p), (8, .p), (9, .p), (10, .p), (11, .l)] rfl rfl ?_
    refine Run.move rfl E rfl rfl rfl ?_; clear E a; intro a E
    refine Run.move rfl E rfl rfl rfl ?_; clear E a; intro a E
    refine Run.nei rfl E rfl rfl rfl rfl (b := true) (by decide) ?_; clear E a; intro a E
    refine Run.move rfl E rfl rfl rfl ?_; clear E a; intro a E
    refine Run.off rfl E rfl rfl ?_; clear E a; intro a E
    refine Run.off rfl E rfl rfl ?_; clear E a; intro a E
    refine Run.off rfl E rfl rfl ?_; clear E a; intro a E
    refine Run.off rfl E rfl rfl ?_; clear E a; intro a E
    refine Run.pickT rfl E rfl rfl rfl rfl ?_; clear E a; intro a E
    refine Run.nilCheck rfl E rfl rfl rfl ?_; clear E a; intro a E
    refine Run.fieldAddr rfl E rfl rfl rfl fo120_2 (rfl) ?_; clear E a; intro a E
    refine Run.store (news := [.bool true]) (cs' := [_, _, _]) (hp' := [_, _, _, _, _, _, _, _, _]) 4 rfl E S rfl rfl rfl rfl rfl sz4 rfl rfl rfl rfl ?_; clear S; intro w S
    refine Run.nil ?_
    refine then_n ?_
    refine wp_seq ?_
    refine region_plain (n := 2) [(0, .l), (1, .l)] rfl rfl ?_
    refine Run.loadN (cs := [.int .i64 0, .int .i64 0, .int .i64 0, .int .i64 0, .int .i64 0, .int .i64 0, .int .i64 0, .slice none 0 0]) rfl rfl E S rfl rfl rfl ag34 rfl (fun _ s => objAll s 0 rfl) ?_; clear E a; intro a E
    refine Run.store (news := [.int .i64 0, .int .i64 0, .int .i64 0, .int .i64 0, .int .i64 0, .int .i64 0, .int .i64 0, .slice none 0 0]) (cs' := [_, _, _, _, _, _, _, _]) (hp' := [_, _, _, _, _, _, _, _, _]) 2 rfl E S rfl rfl rfl rfl rfl sz34 rfl rfl rfl rfl ?_; clear S; intro w S
    refine Run.nil ?_
    refine then_n ?_
    refine wp_ret ?_
    refine retN E (vs := [.agg #[.int .i64 0, .int .i64 0, .int .i64 0, .int .i64 0, .int .i64 0, .int .i64 0, .int .i64 0, .slice none 0 0]]) Try.results83 (.cell (E.slot _ _ rfl) (run_loadVarAgg ag34 rfl (objAll S 2 rfl)) .nil) rfl ⟨rfl, ?_⟩
    have S : St _ _ _ [_, _, _, _, _, _, _, _, _] := S.sel [0, 1, 2, 3, 4, 5, 6, 7, 8] _ rfl rfl
    have S := S.drop1.drop1.drop1.drop1
    exact S
  · skip
    refine RunT.alt ?_ ?_
    · skip
      refine Run.alloc rfl rfl E S rfl rfl z34 rfl ?_; clear E a S; intro b6 w a E S B_; clear B_
      refine RunT.end ?_
      refine RunT.one ?_
      refine Run.call (args := [.agg #[.int .i64 pv.kind, .int .i64 pv.node, .int .i64 pv.phase, .int .i64 pv.pos, .int .i64 pv.start, .int .i64 pv.depth, .int .i64 pv.org, .slice P3 pv.caps.length q4], .slice A0 b.length c0, .int .i64 (k : Int)]) rfl rfl E rfl rfl Try.func66 nm66 rfl rfl (read_nor (t := t) (H1.chg S.chg hAw) hb8 hl (S.rd 1 rfl) p1 (Int.natCast_nonneg _) (by omega) (base_len p1) h (by rw [p2]; exact hR)) ?_; rintro e_ w ⟨rfl, B_⟩; refine ⟨_, rfl, fun _ => B_, ?_⟩; clear E a; replace S := S.bel B_; intro a E
      clear B_
      refine RunT.end ?_
      refine RunT.one ?_
      refine Run.move rfl E rfl rfl rfl ?_; clear E a; intro a E
      refine RunT.end ?_
      refine RunT.one ?_
      refine Run.extract rfl E rfl rfl rfl rfl ?_; clear E a; intro a E
      refine RunT.end ?_
      refine RunT.one ?_
      refine Run.extract rfl E rfl rfl rfl rfl ?_; clear E a; intro a E
      refine RunT.end ?_
      refine RunT.one ?_
      refine Run.extract rfl E rfl rfl rfl rfl ?_; clear E a; intro a E
      refine RunT.end ?_
      refine RunT.one ?_
      refine Run.store (news := [.int .i64 0, .int .i64 0, .int .i64 0, .int .i64 0, .int .i64 0, .int .i64 0, .int .i64 0, .slice none 0 0]) (cs' := [_, _, _, _, _, _, _, _]) (hp' := [_, _, _, _, _, _, _, _, _]) 0 rfl E S rfl rfl rfl rfl rfl sz34 rfl rfl rfl rfl ?_; clear S; intro w S
      refine RunT.end ?_
      refine RunT.one ?_
      refine Run.assign rfl E rfl rfl rfl ?_; clear E a; intro a E
      refine RunT.end ?_
      refine RunT.one ?_
      refine Run.assign rfl E rfl rfl rfl ?_; clear E a; intro a E
      refine RunT.end ?_
      refine RunT.done ?_
      refine then_n ?_
      refine wp_seq ?_
      refine region_plain (n := 9) [(0, .p), (1, .p), (2, .p), (3, .l), (4, .p), (5, .p), (6, .p), (7, .p), (8, .l)] rfl rfl ?_
      refine Run.move rfl E rfl rfl rfl ?_; clear E a; intro a E
      refine Run.nilCheck rfl E rfl rfl rfl ?_; clear E a; intro a E
      refine Run.fieldAddr rfl E rfl rfl rfl fo120_1 (rfl) ?_; clear E a; intro a E
      refine Run.load1 rfl rfl E S rfl rfl rfl one3 (fun _ s => s.objCell 4 1 rfl rfl) ?_; clear E a; intro a E
      refine Run.move rfl E rfl rfl rfl ?_; clear E a; intro a E
      refine Run.add rfl E rfl rfl rfl rfl (q := ((k : Nat) : Int)) ((i64_ok (by omega)).trans (by omega)) ?_; clear E a; intro a E
      refine Run.nilCheck rfl E rfl rfl rfl ?_; clear E a; intro a E
      refine Run.fieldAddr rfl E rfl rfl rfl fo120_1 (rfl) ?_; clear E a; intro a E
      refine Run.store (news := [.int .i64 ((k : Nat) : Int)]) (cs' := [_, _, _]) (hp' := [_, _, _, _, _, _, _, _, _]) 4 rfl E S rfl rfl rfl rfl rfl sz3 rfl rfl rfl rfl ?_; clear S; intro w S
      refine Run.nil ?_
      refine then_n ?_
      refine wp_seq ?_
      refine region_plain (n := 12) [(0, .p), (1, .p), (2, .p), (3, .p), (4, .p), (5, .l), (6, .e), (7, .p), (8, .p), (9, .p), (10, .p), (11, .l)] rfl rfl ?_
      refine Run.move rfl E rfl rfl rfl ?_; clear E a; intro a E
      refine Run.move rfl E rfl rfl rfl ?_; clear E a; intro a E
      refine Run.nei rfl E rfl rfl rfl rfl (b := true) (by decide) ?_; clear E a; intro a E
      refine Run.move rfl E rfl rfl rfl ?_; clear E a; intro a E
      refine Run.off rfl E rfl rfl ?_; clear E a; intro a E
      refine Run.off rfl E rfl rfl ?_; clear E a; intro a E
      refine Run.off rfl E rfl rfl ?_; clear E a; intro a E
      refine Run.off rfl E rfl rfl ?_; clear E a; intro a E
      refine Run.pickT rfl E rfl rfl rfl rfl ?_; clear E a; intro a E
      refine Run.nilCheck rfl E rfl rfl rfl ?_; clear E a; intro a E
      refine Run.fieldAddr rfl E rfl rfl rfl fo120_2 (rfl) ?_; clear E a; intro a E
      refine Run.store (news := [.bool true]) (cs' := [_, _, _]) (hp' := [_, _, _, _, _, _, _, _, _]) 4 rfl E S rfl rfl rfl rfl rfl sz4 rfl rfl rfl rfl ?_; clear S; intro w S
      refine Run.nil ?_
      refine then_n ?_
      refine wp_seq ?_
      refine region_plain (n := 2) [(0, .l), (1, .l)] rfl rfl ?_
      refine Run.loadN (cs := [.int .i64 0, .int .i64 0, .int .i64 0, .int .i64 0, .int .i64 0, .int .i64 0, .int .i64 0, .slice none 0 0]) rfl rfl E S rfl rfl rfl ag34 rfl (fun _ s => objAll s 0 rfl) ?_; clear E a; intro a E
      refine Run.store (news := [.int .i64 0, .int .i64 0, .int .i64 0, .int .i64 0, .int .i64 0, .int .i64 0, .int .i64 0, .slice none 0 0]) (cs' := [_, _, _, _, _, _, _, _]) (hp' := [_, _, _, _, _, _, _, _, _]) 2 rfl E S rfl rfl rfl rfl rfl sz34 rfl rfl rfl rfl ?_; clear S; intro w S
      refine Run.nil ?_
      refine then_n ?_
      refine wp_ret ?_
      refine retN E (vs := [.agg #[.int .i64 0, .int .i64 0, .int .i64 0, .int .i64 0, .int .i64 0, .int .i64 0, .int .i64 0, .slice none 0 0]]) Try.results83 (.cell (E.slot _ _ rfl) (run_loadVarAgg ag34 rfl (objAll S 2 rfl)) .nil) rfl ⟨rfl, ?_⟩
      have S : St _ _ _ [_, _, _, _, _, _, _, _, _] := S.sel [0, 1, 2, 3, 4, 5, 6, 7, 8] _ rfl rfl
      have S := S.drop1.drop1.drop1.drop1
      exact S
    · skip
      exact RunT.none

set_option maxHeartbeats 4000000 in
theorem frec_ok_b {A0 : Option Addr} {c0 : Nat} {r : Nat} (H : Own w0 [.obj r 120 [.slice A0 b.length c0, .int .i64 (k : Int), .bool false], .obj g 128 [.int .i64 (G : Int), .int .i64 (ev : Int), .int .i64 lim, .slice A ((tbytes G ev ts).length) c, .slice B ((tstarts G ev ts).length) d, .int .i64 ((lastS ts).kind), .int .i64 ((lastS ts).node), .int .i64 ((lastS ts).phase), .int .i64 ((lastS ts).pos), .int .i64 ((lastS ts).start), .int .i64 ((lastS ts).depth), .int .i64 ((lastS ts).org), .slice C ((lastS ts).caps.length) e], .row (.slice A ((tbytes G ev ts).length) c) 5 1 ((tbytes G ev ts).length) (u8s (tbytes G ev ts)), .row (.slice B ((tstarts G ev ts).length) d) 3 1 ((tstarts G ev ts).length) (ints (tstarts G ev ts)), .row (.slice C ((lastS ts).caps.length) e) 3 1 ((lastS ts).caps.length) (ints (lastS ts).caps)]) (H1 : Rd w0 A0 b.length 1 (u8s b)) (hb8 : ∀ x ∈ b, x < 256) (hl : b.length ≤ 140737488355328) (hAw : 0 < b.length → ∀ b_ o, A0 = some ⟨b_, o, none⟩ → b_ ∉ fps [.obj r 120 [.slice A0 b.length c0, .int .i64 (k : Int), .bool false], .obj g 128 [.int .i64 (G : Int), .int .i64 (ev : Int), .int .i64 lim, .slice A ((tbytes G ev ts).length) c, .slice B ((tstarts G ev ts).length) d, .int .i64 ((lastS ts).kind), .int .i64 ((lastS ts).node), .int .i64 ((lastS ts).phase), .int .i64 ((lastS ts).pos), .int .i64 ((lastS ts).start), .int .i64 ((lastS ts).depth), .int .i64 ((lastS ts).org), .slice C ((lastS ts).caps.length) e], .row (.slice A ((tbytes G ev ts).length) c) 5 1 ((tbytes G ev ts).length) (u8s (tbytes G ev ts)), .row (.slice B ((tstarts G ev ts).length) d) 3 1 ((tstarts G ev ts).length) (ints (tstarts G ev ts)), .row (.slice C ((lastS ts).caps.length) e) 3 1 ((lastS ts).caps.length) (ints (lastS ts).caps)]) (hok : TapeOK G ev ts) (hlim : ((tbytes G ev ts).length : Int) ≤ lim) (hl1 : lim ≤ 16777216) (hk : k ≤ b.length) {pv : Sta} (hpv : pv = prevS G ev ts ts.length) (hm : ts.length % ev = 0) (h : rdF pv b (k : Int) = (((k + n : Nat) : Int), 0, t)) (hn : k + n ≤ b.length) (hR : t.Right (G : Int)) : Calls Try.prog 83 [.pointer (some ⟨r, 0, none⟩), .pointer (some ⟨g, 0, none⟩), .agg #[.int .i64 u.kind, .int .i64 u.node, .int .i64 u.phase, .int .i64 u.pos, .int .i64 u.start, .int .i64 u.depth, .int .i64 u.org, .slice U u.caps.length q]].toArray w0 (fun r_ w' => ∃ D e_ A' c' B' d' C' e', r_ = .returned (.agg #[.int .i64 t.kind, .int .i64 t.node, .int .i64 t.phase, .int .i64 t.pos, .int .i64 t.start, .int .i64 t.depth, .int .i64 t.org, .slice D t.caps.length e_]) ∧ St (fps [.obj r 120 [.slice A0 b.length c0, .int .i64 (k : Int), .bool false], .obj g 128 [.int .i64 (G : Int), .int .i64 (ev : Int), .int .i64 lim, .slice A ((tbytes G ev ts).length) c, .slice B ((tstarts G ev ts).length) d, .int .i64 ((lastS ts).kind), .int .i64 ((lastS ts).node), .int .i64 ((lastS ts).phase), .int .i64 ((lastS ts).pos), .int .i64 ((lastS ts).start), .int .i64 ((lastS ts).depth), .int .i64 ((lastS ts).org), .slice C ((lastS ts).caps.length) e], .row (.slice A ((tbytes G ev ts).length) c) 5 1 ((tbytes G ev ts).length) (u8s (tbytes G ev ts)), .row (.slice B ((tstarts G ev ts).length) d) 3 1 ((tstarts G ev ts).length) (ints (tstarts G ev ts)), .row (.slice C ((lastS ts).caps.length) e) 3 1 ((lastS ts).caps.length) (ints (lastS ts).caps)]) w0 w' [.obj r 120 [.slice A0 b.length c0, .int .i64 ((k + n : Nat) : Int), .bool (decide (addE G ev lim ts t ≠ 0))], .obj g 128 [.int .i64 (G : Int), .int .i64 (ev : Int), .int .i64 lim, .slice (A') ((tbytes G ev (addT G ev lim ts t)).length) (c'), .slice (B') ((tstarts G ev (addT G ev lim ts t)).length) (d'), .int .i64 ((lastS (addT G ev lim ts t)).kind), .int .i64 ((lastS (addT G ev lim ts t)).node), .int .i64 ((lastS (addT G ev lim ts t)).phase), .int .i64 ((lastS (addT G ev lim ts t)).pos), .int .i64 ((lastS (addT G ev lim ts t)).start), .int .i64 ((lastS (addT G ev lim ts t)).depth), .int .i64 ((lastS (addT G ev lim ts t)).org), .slice (C') ((lastS (addT G ev lim ts t)).caps.length) (e')], .row (.slice (A') ((tbytes G ev (addT G ev lim ts t)).length) (c')) 5 1 ((tbytes G ev (addT G ev lim ts t)).length) (u8s (tbytes G ev (addT G ev lim ts t))), .row (.slice (B') ((tstarts G ev (addT G ev lim ts t)).length) (d')) 3 1 ((tstarts G ev (addT G ev lim ts t)).length) (ints (tstarts G ev (addT G ev lim ts t))), .row (.slice (C') ((lastS (addT G ev lim ts t)).caps.length) (e')) 3 1 ((lastS (addT G ev lim ts t)).caps.length) (ints (lastS (addT G ev lim ts t)).caps), .row (.slice D t.caps.length e_) 3 1 t.caps.length (ints t.caps)]) := by
  have S := H.st
  obtain ⟨p1, p2, p3⟩ := hok.prev (Nat.le_refl ts.length)
  rw [← hpv] at p1 p2 p3
  have hgg := hok.g
  have he0 := hok.e0
  have hcl := right_capl hR
  refine fn_start Try.func83 rfl 53 rfl rfl [(0, _), (1, _), (2, _)] ⟨rfl, rfl, rfl, trivial⟩ ?_; intro a E
  refine wp_seq ?_
  refine region_plain (n := 2) [(0, .e), (1, .e)] rfl rfl ?_
  refine Run.box (cs := [.int .i64 u.kind, .int .i64 u.node, .int .i64 u.phase, .int .i64 u.pos, .int .i64 u.start, .int .i64 u.depth, .int .i64 u.org, .slice U u.caps.length q]) rfl rfl E S rfl rfl rfl rfl ?_; clear E a S; intro b1 w a E S B_; clear B_
  refine Run.alloc rfl rfl E S rfl rfl z34 rfl ?_; clear E a S; intro b2 w a E S B_; clear B_
  refine Run.nil ?_
  refine then_n ?_
  refine wp_seq ?_
  refine wp_seq ?_
  refine region_plain (n := 6) [(0, .p), (1, .e), (2, .p), (3, .e), (4, .p), (5, .p)] rfl rfl ?_
  refine Run.move rfl E rfl rfl rfl ?_; clear E a; intro a E
  refine Run.call (args := [.pointer (some ⟨g, 0, none⟩)]) rfl rfl E rfl rfl Try.func38 nm38 rfl rfl (tape_len (St.holdsL (A := [.obj g 128 [.int .i64 (G : Int), .int .i64 (ev : Int), .int .i64 lim, .slice A ((tbytes G ev ts).length) c, .slice B ((tstarts G ev ts).length) d, .int .i64 ((lastS ts).kind), .int .i64 ((lastS ts).node), .int .i64 ((lastS ts).phase), .int .i64 ((lastS ts).pos), .int .i64 ((lastS ts).start), .int .i64 ((lastS ts).depth), .int .i64 ((lastS ts).org), .slice C ((lastS ts).caps.length) e], .row (.slice A ((tbytes G ev ts).length) c) 5 1 ((tbytes G ev ts).length) (u8s (tbytes G ev ts)), .row (.slice B ((tstarts G ev ts).length) d) 3 1 ((tstarts G ev ts).length) (ints (tstarts G ev ts)), .row (.slice C ((lastS ts).caps.length) e) 3 1 ((lastS ts).caps.length) (ints (lastS ts).caps)]) (R := [_, _, _]) (S.sel [3, 4, 5, 6, 0, 1, 2] ([.obj g 128 [.int .i64 (G : Int), .int .i64 (ev : Int), .int .i64 lim, .slice A ((tbytes G ev ts).length) c, .slice B ((tstarts G ev ts).length) d, .int .i64 ((lastS ts).kind), .int .i64 ((lastS ts).node), .int .i64 ((lastS ts).phase), .int .i64 ((lastS ts).pos), .int .i64 ((lastS ts).start), .int .i64 ((lastS ts).depth), .int .i64 ((lastS ts).org), .slice C ((lastS ts).caps.length) e], .row (.slice A ((tbytes G ev ts).length) c) 5 1 ((tbytes G ev ts).length) (u8s (tbytes G ev ts)), .row (.slice B ((tstarts G ev ts).length) d) 3 1 ((tstarts G ev ts).length) (ints (tstarts G ev ts)), .row (.slice C ((lastS ts).caps.length) e) 3 1 ((lastS ts).caps.length) (ints (lastS ts).caps)] ++ [_, _, _]) rfl rfl))) ?_; rintro e_ w ⟨rfl, B_⟩; refine ⟨_, rfl, fun _ => B_, ?_⟩; clear E a; replace S := S.bel B_; intro a E
  clear B_
  refine Run.move rfl E rfl rfl rfl ?_; clear E a; intro a E
  refine Run.call (args := [.pointer (some ⟨g, 0, none⟩)]) rfl rfl E rfl rfl Try.func39 nm39 rfl rfl (tape_every (St.holdsL (A := [.obj g 128 [.int .i64 (G : Int), .int .i64 (ev : Int), .int .i64 lim, .slice A ((tbytes G ev ts).length) c, .slice B ((tstarts G ev ts).length) d, .int .i64 ((lastS ts).kind), .int .i64 ((lastS ts).node), .int .i64 ((lastS ts).phase), .int .i64 ((lastS ts).pos), .int .i64 ((lastS ts).start), .int .i64 ((lastS ts).depth), .int .i64 ((lastS ts).org), .slice C ((lastS ts).caps.length) e], .row (.slice A ((tbytes G ev ts).length) c) 5 1 ((tbytes G ev ts).length) (u8s (tbytes G ev ts)), .row (.slice B ((tstarts G ev ts).length) d) 3 1 ((tstarts G ev ts).length) (ints (tstarts G ev ts)), .row (.slice C ((lastS ts).caps.length) e) 3 1 ((lastS ts).caps.length) (ints (lastS ts).caps)]) (R := [_, _, _]) (S.sel [3, 4, 5, 6, 0, 1, 2] ([.obj g 128 [.int .i64 (G : Int), .int .i64 (ev : Int), .int .i64 lim, .slice A ((tbytes G ev ts).length) c, .slice B ((tstarts G ev ts).length) d, .int .i64 ((lastS ts).kind), .int .i64 ((lastS ts).node), .int .i64 ((lastS ts).phase), .int .i64 ((lastS ts).pos), .int .i64 ((lastS ts).start), .int .i64 ((lastS ts).depth), .int .i64 ((lastS ts).org), .slice C ((lastS ts).caps.length) e], .row (.slice A ((tbytes G ev ts).length) c) 5 1 ((tbytes G ev ts).length) (u8s (tbytes G ev ts)), .row (.slice B ((tstarts G ev ts).length) d) 3 1 ((tstarts G ev ts).length) (ints (tstarts G ev ts)), .row (.slice C ((lastS ts).caps.length) e) 3 1 ((lastS ts).caps.length) (ints (lastS ts).caps)] ++ [_, _, _]) rfl rfl))) ?_; rintro e_ w ⟨rfl, B_⟩; refine ⟨_, rfl, fun _ => B_, ?_⟩; clear E a; replace S := S.bel B_; intro a E
  clear B_
  refine Run.rem rfl E rfl rfl rfl rfl (by omega) (q := ((ts.length % ev : Nat) : Int)) ((rem_nn _ _).trans (by rw [tstarts_len])) ?_; clear E a; intro a E
  refine Run.eqi rfl E rfl rfl rfl rfl (decide_eq_true (by rw [hm]; rfl)) ?_; clear E a; intro a E
  refine Run.nil ?_
  refine then_n ?_
  refine cond_T E rfl ?_
  refine region_plain (n := 4) [(0, .p), (1, .e), (2, .e), (3, .l)] rfl rfl ?_
  refine Run.move rfl E rfl rfl rfl ?_; clear E a; intro a E
  refine Run.call (args := [.pointer (some ⟨g, 0, none⟩)]) rfl rfl E rfl rfl Try.func27 nm27 rfl rfl (tape_groups (St.holdsL (A := [.obj g 128 [.int .i64 (G : Int), .int .i64 (ev : Int), .int .i64 lim, .slice A ((tbytes G ev ts).length) c, .slice B ((tstarts G ev ts).length) d, .int .i64 ((lastS ts).kind), .int .i64 ((lastS ts).node), .int .i64 ((lastS ts).phase), .int .i64 ((lastS ts).pos), .int .i64 ((lastS ts).start), .int .i64 ((lastS ts).depth), .int .i64 ((lastS ts).org), .slice C ((lastS ts).caps.length) e], .row (.slice A ((tbytes G ev ts).length) c) 5 1 ((tbytes G ev ts).length) (u8s (tbytes G ev ts)), .row (.slice B ((tstarts G ev ts).length) d) 3 1 ((tstarts G ev ts).length) (ints (tstarts G ev ts)), .row (.slice C ((lastS ts).caps.length) e) 3 1 ((lastS ts).caps.length) (ints (lastS ts).caps)]) (R := [_, _, _]) (S.sel [3, 4, 5, 6, 0, 1, 2] ([.obj g 128 [.int .i64 (G : Int), .int .i64 (ev : Int), .int .i64 lim, .slice A ((tbytes G ev ts).length) c, .slice B ((tstarts G ev ts).length) d, .int .i64 ((lastS ts).kind), .int .i64 ((lastS ts).node), .int .i64 ((lastS ts).phase), .int .i64 ((lastS ts).pos), .int .i64 ((lastS ts).start), .int .i64 ((lastS ts).depth), .int .i64 ((lastS ts).org), .slice C ((lastS ts).caps.length) e], .row (.slice A ((tbytes G ev ts).length) c) 5 1 ((tbytes G ev ts).length) (u8s (tbytes G ev ts)), .row (.slice B ((tstarts G ev ts).length) d) 3 1 ((tstarts G ev ts).length) (ints (tstarts G ev ts)), .row (.slice C ((lastS ts).caps.length) e) 3 1 ((lastS ts).caps.length) (ints (lastS ts).caps)] ++ [_, _, _]) rfl rfl))) ?_; rintro e_ w ⟨rfl, B_⟩; refine ⟨_, rfl, fun _ => B_, ?_⟩; clear E a; replace S := S.bel B_; intro a E
  clear B_
  refine Run.call (args := [.int .i64 (G : Int)]) rfl rfl E rfl rfl Try.func78 nm78 rfl rfl (blankS_walk (bl := pv) (by rw [hpv, prev_blank hm]) hok.g) ?_; rintro e_ w ⟨P3, q4, rfl, S_⟩; refine ⟨_, rfl, (fun _ => S_.belT), ?_⟩; clear E a; intro a E
  replace S : St _ _ _ [_, .obj _ _ [_, _, _, _, _, _, _, _], .obj _ _ [_, _, _, _, _, _, _, _], .obj _ _ [_, _, _], .obj _ _ [_, _, _, _, _, _, _, _, _, _, _, _, _], _, _, _] := St.call (A := []) (R := [_, _, _, _, _, _, _]) S S_; clear S_
  refine Run.store (news := [.int .i64 pv.kind, .int .i64 pv.node, .int .i64 pv.phase, .int .i64 pv.pos, .int .i64 pv.start, .int .i64 pv.depth, .int .i64 pv.org, .slice P3 pv.caps.length q4]) (cs' := [_, _, _, _, _, _, _, _]) (hp' := [_, _, _, _, _, _, _, _]) 2 rfl E S rfl rfl rfl rfl rfl sz34 rfl rfl rfl rfl ?_; clear S; intro w S
  refine Run.nil ?_
  refine then_n ?_
  refine wp_seq ?_
  refine region_tree (n := 18) (.one 1 .p (.one 2 .p (.one 3 .p (.one 5 .p (.one 6 .p (.one 7 .p (.one 0 .t (.one 4 .t (.one 8 .t (.alt 9 (.one 10 .p (.one 11 .p (.one 12 .p (.one 13 .p (.one 14 .e (.one 15 .l (.one 16 .p (.one 17 .p .done)))))))) (.alt 14 (.one 9 .e (.one 10 .p (.one 11 .p (.one 12 .p (.one 13 .p (.one 15 .l (.one 16 .p (.one 17 .p .done)))))))) .none))))))))))) [0, 0, 2, 6, 14, 0, 32, 96, 224, 511, 1023, 2047, 2047, 2047, 0, 20479, 57343, 131071] S mixed rfl rfl (by kernel_rfl) (fun _ _ _ _ _ h => h) ?_; clear S; intro w S B_; clear B_
  refine RunT.one ?_
  refine Run.move rfl E rfl rfl rfl ?_; clear E a; intro a E
  refine RunT.end ?_
  refine RunT.one ?_
  refine Run.nilCheck rfl E rfl rfl rfl ?_; clear E a; intro a E
  refine RunT.end ?_
  refine RunT.one ?_
  refine Run.fieldAddr rfl E rfl rfl rfl fo120_0 (rfl) ?_; clear E a; intro a E
  refine RunT.end ?_
  refine RunT.one ?_
  refine Run.move rfl E rfl rfl rfl ?_; clear E a; intro a E
  refine RunT.end ?_
  refine RunT.one ?_
  refine Run.nilCheck rfl E rfl rfl rfl ?_; clear E a; intro a E
  refine RunT.end ?_
  refine RunT.one ?_
  refine Run.fieldAddr rfl E rfl rfl rfl fo120_1 (rfl) ?_; clear E a; intro a E
  refine RunT.end ?_
  refine RunT.one ?_
  refine Run.loadN (cs := [.int .i64 pv.kind, .int .i64 pv.node, .int .i64 pv.phase, .int .i64 pv.pos, .int .i64 pv.start, .int .i64 pv.depth, .int .i64 pv.org, .slice P3 pv.caps.length q4]) rfl rfl E S rfl rfl rfl ag34 rfl (fun _ s => objAll s 2 rfl) ?_; clear E a; intro a E
  refine RunT.end ?_
  refine RunT.one ?_
  refine Run.load1 rfl rfl E S rfl rfl rfl one22 (fun _ s => s.objCell 3 0 rfl rfl) ?_; clear E a; intro a E
  refine RunT.end ?_
  refine RunT.one ?_
  refine Run.load1 rfl rfl E S rfl rfl rfl one3 (fun _ s => s.objCell 3 1 rfl rfl) ?_; clear E a; intro a E
  refine RunT.end ?_
  refine RunT.alt ?_ ?_
  · skip
    refine Run.call (args := [.agg #[.int .i64 pv.kind, .int .i64 pv.node, .int .i64 pv.phase, .int .i64 pv.pos, .int .i64 pv.start, .int .i64 pv.depth, .int .i64 pv.org, .slice P3 pv.caps.length q4], .slice A0 b.length c0, .int .i64 (k : Int)]) rfl rfl E rfl rfl Try.func66 nm66 rfl rfl (read_ok (t := t) (H1.chg S.chg hAw) hb8 hl (S.rd 0 rfl) p1 (Int.natCast_nonneg _) (by omega) (base_len p1) h (by rw [p2]; exact hR)) ?_; rintro e_ w ⟨D5, e6, rfl, S_⟩; refine ⟨_, rfl, (fun _ => S_.belT), ?_⟩; clear E a; intro a E
    replace S : St _ _ _ [_, _, .obj _ _ [_, _, _, _, _, _, _, _], .obj _ _ [_, _, _, _, _, _, _, _], .obj _ _ [_, _, _], .obj _ _ [_, _, _, _, _, _, _, _, _, _, _, _, _], _, _, _] := St.call (A := []) (R := [_, _, _, _, _, _, _, _]) S S_; clear S_
    refine RunT.end ?_
    refine RunT.one ?_
    refine Run.move rfl E rfl rfl rfl ?_; clear E a; intro a E
    refine RunT.end ?_
    refine RunT.one ?_
    refine Run.extract rfl E rfl rfl rfl rfl ?_; clear E a; intro a E
    refine RunT.end ?_
    refine RunT.one ?_
    refine Run.extract rfl E rfl rfl rfl rfl ?_; clear E a; intro a E
    refine RunT.end ?_
    refine RunT.one ?_
    refine Run.extract rfl E rfl rfl rfl rfl ?_; clear E a; intro a E
    refine RunT.end ?_
    refine RunT.one ?_
    refine Run.alloc rfl rfl E S rfl rfl z34 rfl ?_; clear E a S; intro b7 w a E S B_; clear B_
    refine RunT.end ?_
    refine RunT.one ?_
    refine Run.store (news := [.int .i64 t.kind, .int .i64 t.node, .int .i64 t.phase, .int .i64 t.pos, .int .i64 t.start, .int .i64 t.depth, .int .i64 t.org, .slice D5 t.caps.length e6]) (cs' := [_, _, _, _, _, _, _, _]) (hp' := [_, _, _, _, _, _, _, _, _, _]) 0 rfl E S rfl rfl rfl rfl rfl sz34 rfl rfl rfl rfl ?_; clear S; intro w S
    refine RunT.end ?_
    refine RunT.one ?_
    refine Run.assign rfl E rfl rfl rfl ?_; clear E a; intro a E
    refine RunT.end ?_
    refine RunT.one ?_
    refine Run.assign rfl E rfl rfl rfl ?_; clear E a; intro a E
    refine RunT.end ?_
    refine RunT.done ?_
    refine then_n ?_
    refine wp_seq ?_
    refine region_plain (n := 9) [(0, .p), (1, .p), (2, .p), (3, .l), (4, .p), (5, .p), (6, .p), (7, .p), (8, .l)] rfl rfl ?_
    refine Run.move rfl E rfl rfl rfl ?_; clear E a; intro a E
    refine Run.nilCheck rfl E rfl rfl rfl ?_; clear E a; intro a E
    refine Run.fieldAddr rfl E rfl rfl rfl fo120_1 (rfl) ?_; clear E a; intro a E
    refine Run.load1 rfl rfl E S rfl rfl rfl one3 (fun _ s => s.objCell 5 1 rfl rfl) ?_; clear E a; intro a E
    refine Run.move rfl E rfl rfl rfl ?_; clear E a; intro a E
    refine Run.add rfl E rfl rfl rfl rfl (q := ((k + n : Nat) : Int)) (numR_wrapat (by omega)) ?_; clear E a; intro a E
    refine Run.nilCheck rfl E rfl rfl rfl ?_; clear E a; intro a E
    refine Run.fieldAddr rfl E rfl rfl rfl fo120_1 (rfl) ?_; clear E a; intro a E
    refine Run.store (news := [.int .i64 ((k + n : Nat) : Int)]) (cs' := [_, _, _]) (hp' := [_, _, _, _, _, _, _, _, _, _]) 5 rfl E S rfl rfl rfl rfl rfl sz3 rfl rfl rfl rfl ?_; clear S; intro w S
    refine Run.nil ?_
    refine then_n ?_
    refine wp_seq ?_
    refine region_plain (n := 12) [(0, .p), (1, .p), (2, .p), (3, .p), (4, .p), (5, .l), (6, .l), (7, .p), (8, .p), (9, .p), (10, .p), (11, .l)] rfl rfl ?_
    refine Run.move rfl E rfl rfl rfl ?_; clear E a; intro a E
    refine Run.move rfl E rfl rfl rfl ?_; clear E a; intro a E
    refine Run.nei rfl E rfl rfl rfl rfl (b := false) (by decide) ?_; clear E a; intro a E
    refine Run.move rfl E rfl rfl rfl ?_; clear E a; intro a E
    refine Run.move rfl E rfl rfl rfl ?_; clear E a; intro a E
    refine Run.loadN (cs := [.int .i64 t.kind, .int .i64 t.node, .int .i64 t.phase, .int .i64 t.pos, .int .i64 t.start, .int .i64 t.depth, .int .i64 t.org, .slice D5 t.caps.length e6]) rfl rfl E S rfl rfl rfl ag34 rfl (fun _ s => objAll s 0 rfl) ?_; clear E a; intro a E
    replace S : St _ _ _ [.obj _ _ [_, _, _, _, _, _, _, _, _, _, _, _, _], _, _, _, .obj _ _ [_, _, _, _, _, _, _, _], _, _, .obj _ _ [_, _, _, _, _, _, _, _], .obj _ _ [_, _, _, _, _, _, _, _], .obj _ _ [_, _, _]] := S.sel [6, 7, 8, 9, 0, 1, 2, 3, 4, 5] _ rfl rfl
    refine Run.call (args := [.pointer (some ⟨g, 0, none⟩), .agg #[.int .i64 t.kind, .int .i64 t.node, .int .i64 t.phase, .int .i64 t.pos, .int .i64 t.start, .int .i64 t.depth, .int .i64 t.org, .slice D5 t.caps.length e6]]) rfl rfl E rfl rfl Try.func75 nm75 rfl rfl (tadd_walk (f := e6) (G := G) (ev := ev) (lim := lim) (ts := ts) (s := t) (St.ownL (A := [.obj g 128 [.int .i64 (G : Int), .int .i64 (ev : Int), .int .i64 lim, .slice A ((tbytes G ev ts).length) c, .slice B ((tstarts G ev ts).length) d, .int .i64 ((lastS ts).kind), .int .i64 ((lastS ts).node), .int .i64 ((lastS ts).phase), .int .i64 ((lastS ts).pos), .int .i64 ((lastS ts).start), .int .i64 ((lastS ts).depth), .int .i64 ((lastS ts).org), .slice C ((lastS ts).caps.length) e], .row (.slice A ((tbytes G ev ts).length) c) 5 1 ((tbytes G ev ts).length) (u8s (tbytes G ev ts)), .row (.slice B ((tstarts G ev ts).length) d) 3 1 ((tstarts G ev ts).length) (ints (tstarts G ev ts)), .row (.slice C ((lastS ts).caps.length) e) 3 1 ((lastS ts).caps.length) (ints (lastS ts).caps)]) (R := [_, _, _, _, _, _]) S) hok hlim hl1 (S.rd 5 rfl) (St.apartRow (A := [.obj g 128 [.int .i64 (G : Int), .int .i64 (ev : Int), .int .i64 lim, .slice A ((tbytes G ev ts).length) c, .slice B ((tstarts G ev ts).length) d, .int .i64 ((lastS ts).kind), .int .i64 ((lastS ts).node), .int .i64 ((lastS ts).phase), .int .i64 ((lastS ts).pos), .int .i64 ((lastS ts).start), .int .i64 ((lastS ts).depth), .int .i64 ((lastS ts).org), .slice C ((lastS ts).caps.length) e], .row (.slice A ((tbytes G ev ts).length) c) 5 1 ((tbytes G ev ts).length) (u8s (tbytes G ev ts)), .row (.slice B ((tstarts G ev ts).length) d) 3 1 ((tstarts G ev ts).length) (ints (tstarts G ev ts)), .row (.slice C ((lastS ts).caps.length) e) 3 1 ((lastS ts).caps.length) (ints (lastS ts).caps)]) (R := [_, _, _, _, _, _]) S 1 rfl) (by omega)) ?_; rintro e_ w ⟨rfl, Ax8, cx9, Bx10, dx11, Cx12, ex13, S_⟩; refine ⟨_, rfl, (fun h => by cases h), ?_⟩; clear E a; intro a E
    replace S : St _ _ _ [.obj _ _ [_, _, _, _, _, _, _, _, _, _, _, _, _], _, _, _, .obj _ _ [_, _, _, _, _, _, _, _], _, _, .obj _ _ [_, _, _, _, _, _, _, _], .obj _ _ [_, _, _, _, _, _, _, _], .obj _ _ [_, _, _]] := St.call (A := [.obj g 128 [.int .i64 (G : Int), .int .i64 (ev : Int), .int .i64 lim, .slice A ((tbytes G ev ts).length) c, .slice B ((tstarts G ev ts).length) d, .int .i64 ((lastS ts).kind), .int .i64 ((lastS ts).node), .int .i64 ((lastS ts).phase), .int .i64 ((lastS ts).pos), .int .i64 ((lastS ts).start), .int .i64 ((lastS ts).depth), .int .i64 ((lastS ts).org), .slice C ((lastS ts).caps.length) e], .row (.slice A ((tbytes G ev ts).length) c) 5 1 ((tbytes G ev ts).length) (u8s (tbytes G ev ts)), .row (.slice B ((tstarts G ev ts).length) d) 3 1 ((tstarts G ev ts).length) (ints (tstarts G ev ts)), .row (.slice C ((lastS ts).caps.length) e) 3 1 ((lastS ts).caps.length) (ints (lastS ts).caps)]) (R := [_, _, _, _, _, _]) S S_; clear S_
    refine Run.nei rfl E rfl rfl rfl rfl rfl ?_; clear E a; intro a E
    refine Run.pickF rfl E rfl rfl rfl rfl ?_; clear E a; intro a E
    refine Run.nilCheck rfl E rfl rfl rfl ?_; clear E a; intro a E
    refine Run.fieldAddr rfl E rfl rfl rfl fo120_2 (rfl) ?_; clear E a; intro a E
    refine Run.store (news := [.bool (decide (addE G ev lim ts t ≠ 0))]) (cs' := [_, _, _]) (hp' := [_, _, _, _, _, _, _, _, _, _]) 9 rfl E S rfl rfl rfl rfl rfl sz4 rfl rfl rfl rfl ?_; clear S; intro w S
    refine Run.nil ?_
    refine then_n ?_
    refine wp_seq ?_
    refine region_plain (n := 2) [(0, .l), (1, .l)] rfl rfl ?_
    refine Run.loadN (cs := [.int .i64 t.kind, .int .i64 t.node, .int .i64 t.phase, .int .i64 t.pos, .int .i64 t.start, .int .i64 t.depth, .int .i64 t.org, .slice D5 t.caps.length e6]) rfl rfl E S rfl rfl rfl ag34 rfl (fun _ s => objAll s 4 rfl) ?_; clear E a; intro a E
    refine Run.store (news := [.int .i64 t.kind, .int .i64 t.node, .int .i64 t.phase, .int .i64 t.pos, .int .i64 t.start, .int .i64 t.depth, .int .i64 t.org, .slice D5 t.caps.length e6]) (cs' := [_, _, _, _, _, _, _, _]) (hp' := [_, _, _, _, _, _, _, _, _, _]) 7 rfl E S rfl rfl rfl rfl rfl sz34 rfl rfl rfl rfl ?_; clear S; intro w S
    refine Run.nil ?_
    refine then_n ?_
    refine wp_ret ?_
    refine retN E (vs := [.agg #[.int .i64 t.kind, .int .i64 t.node, .int .i64 t.phase, .int .i64 t.pos, .int .i64 t.start, .int .i64 t.depth, .int .i64 t.org, .slice D5 t.caps.length e6]]) Try.results83 (.cell (E.slot _ _ rfl) (run_loadVarAgg ag34 rfl (objAll S 7 rfl)) .nil) rfl ⟨D5, e6, Ax8, cx9, Bx10, dx11, Cx12, ex13, rfl, ?_⟩
    have S : St _ _ _ [_, _, _, _, _, _, _, _, _, _] := S.sel [4, 6, 7, 8, 9, 0, 1, 2, 3, 5] _ rfl rfl
    have S := S.drop1.drop1.drop1.drop1
    exact S
  · skip
    refine RunT.alt ?_ ?_
    · skip
      refine Run.alloc rfl rfl E S rfl rfl z34 rfl ?_; clear E a S; intro b14 w a E S B_; clear B_
      refine RunT.end ?_
      refine RunT.one ?_
      refine Run.call (args := [.agg #[.int .i64 pv.kind, .int .i64 pv.node, .int .i64 pv.phase, .int .i64 pv.pos, .int .i64 pv.start, .int .i64 pv.depth, .int .i64 pv.org, .slice P3 pv.caps.length q4], .slice A0 b.length c0, .int .i64 (k : Int)]) rfl rfl E rfl rfl Try.func66 nm66 rfl rfl (read_ok (t := t) (H1.chg S.chg hAw) hb8 hl (S.rd 1 rfl) p1 (Int.natCast_nonneg _) (by omega) (base_len p1) h (by rw [p2]; exact hR)) ?_; rintro e_ w ⟨D15, e16, rfl, S_⟩; refine ⟨_, rfl, (fun _ => S_.belT), ?_⟩; clear E a; intro a E
      replace S : St _ _ _ [_, .obj _ _ [_, _, _, _, _, _, _, _], _, .obj _ _ [_, _, _, _, _, _, _, _], .obj _ _ [_, _, _, _, _, _, _, _], .obj _ _ [_, _, _], .obj _ _ [_, _, _, _, _, _, _, _, _, _, _, _, _], _, _, _] := St.call (A := []) (R := [_, _, _, _, _, _, _, _, _]) S S_; clear S_
      refine RunT.end ?_
      refine RunT.one ?_
      refine Run.move rfl E rfl rfl rfl ?_; clear E a; intro a E
      refine RunT.end ?_
      refine RunT.one ?_
      refine Run.extract rfl E rfl rfl rfl rfl ?_; clear E a; intro a E
      refine RunT.end ?_
      refine RunT.one ?_
      refine Run.extract rfl E rfl rfl rfl rfl ?_; clear E a; intro a E
      refine RunT.end ?_
      refine RunT.one ?_
      refine Run.extract rfl E rfl rfl rfl rfl ?_; clear E a; intro a E
      refine RunT.end ?_
      refine RunT.one ?_
      refine Run.store (news := [.int .i64 t.kind, .int .i64 t.node, .int .i64 t.phase, .int .i64 t.pos, .int .i64 t.start, .int .i64 t.depth, .int .i64 t.org, .slice D15 t.caps.length e16]) (cs' := [_, _, _, _, _, _, _, _]) (hp' := [_, _, _, _, _, _, _, _, _, _]) 1 rfl E S rfl rfl rfl rfl rfl sz34 rfl rfl rfl rfl ?_; clear S; intro w S
      refine RunT.end ?_
      refine RunT.one ?_
      refine Run.assign rfl E rfl rfl rfl ?_; clear E a; intro a E
      refine RunT.end ?_
      refine RunT.one ?_
      refine Run.assign rfl E rfl rfl rfl ?_; clear E a; intro a E
      refine RunT.end ?_
      refine RunT.done ?_
      refine then_n ?_
      refine wp_seq ?_
      refine region_plain (n := 9) [(0, .p), (1, .p), (2, .p), (3, .l), (4, .p), (5, .p), (6, .p), (7, .p), (8, .l)] rfl rfl ?_
      refine Run.move rfl E rfl rfl rfl ?_; clear E a; intro a E
      refine Run.nilCheck rfl E rfl rfl rfl ?_; clear E a; intro a E
      refine Run.fieldAddr rfl E rfl rfl rfl fo120_1 (rfl) ?_; clear E a; intro a E
      refine Run.load1 rfl rfl E S rfl rfl rfl one3 (fun _ s => s.objCell 5 1 rfl rfl) ?_; clear E a; intro a E
      refine Run.move rfl E rfl rfl rfl ?_; clear E a; intro a E
      refine Run.add rfl E rfl rfl rfl rfl (q := ((k + n : Nat) : Int)) (numR_wrapat (by omega)) ?_; clear E a; intro a E
      refine Run.nilCheck rfl E rfl rfl rfl ?_; clear E a; intro a E
      refine Run.fieldAddr rfl E rfl rfl rfl fo120_1 (rfl) ?_; clear E a; intro a E
      refine Run.store (news := [.int .i64 ((k + n : Nat) : Int)]) (cs' := [_, _, _]) (hp' := [_, _, _, _, _, _, _, _, _, _]) 5 rfl E S rfl rfl rfl rfl rfl sz3 rfl rfl rfl rfl ?_; clear S; intro w S
      refine Run.nil ?_
      refine then_n ?_
      refine wp_seq ?_
      refine region_plain (n := 12) [(0, .p), (1, .p), (2, .p), (3, .p), (4, .p), (5, .l), (6, .l), (7, .p), (8, .p), (9, .p), (10, .p), (11, .l)] rfl rfl ?_
      refine Run.move rfl E rfl rfl rfl ?_; clear E a; intro a E
      refine Run.move rfl E rfl rfl rfl ?_; clear E a; intro a E
      refine Run.nei rfl E rfl rfl rfl rfl (b := false) (by decide) ?_; clear E a; intro a E
      refine Run.move rfl E rfl rfl rfl ?_; clear E a; intro a E
      refine Run.move rfl E rfl rfl rfl ?_; clear E a; intro a E
      refine Run.loadN (cs := [.int .i64 t.kind, .int .i64 t.node, .int .i64 t.phase, .int .i64 t.pos, .int .i64 t.start, .int .i64 t.depth, .int .i64 t.org, .slice D15 t.caps.length e16]) rfl rfl E S rfl rfl rfl ag34 rfl (fun _ s => objAll s 1 rfl) ?_; clear E a; intro a E
      replace S : St _ _ _ [.obj _ _ [_, _, _, _, _, _, _, _, _, _, _, _, _], _, _, _, _, .obj _ _ [_, _, _, _, _, _, _, _], _, .obj _ _ [_, _, _, _, _, _, _, _], .obj _ _ [_, _, _, _, _, _, _, _], .obj _ _ [_, _, _]] := S.sel [6, 7, 8, 9, 0, 1, 2, 3, 4, 5] _ rfl rfl
      refine Run.call (args := [.pointer (some ⟨g, 0, none⟩), .agg #[.int .i64 t.kind, .int .i64 t.node, .int .i64 t.phase, .int .i64 t.pos, .int .i64 t.start, .int .i64 t.depth, .int .i64 t.org, .slice D15 t.caps.length e16]]) rfl rfl E rfl rfl Try.func75 nm75 rfl rfl (tadd_walk (f := e16) (G := G) (ev := ev) (lim := lim) (ts := ts) (s := t) (St.ownL (A := [.obj g 128 [.int .i64 (G : Int), .int .i64 (ev : Int), .int .i64 lim, .slice A ((tbytes G ev ts).length) c, .slice B ((tstarts G ev ts).length) d, .int .i64 ((lastS ts).kind), .int .i64 ((lastS ts).node), .int .i64 ((lastS ts).phase), .int .i64 ((lastS ts).pos), .int .i64 ((lastS ts).start), .int .i64 ((lastS ts).depth), .int .i64 ((lastS ts).org), .slice C ((lastS ts).caps.length) e], .row (.slice A ((tbytes G ev ts).length) c) 5 1 ((tbytes G ev ts).length) (u8s (tbytes G ev ts)), .row (.slice B ((tstarts G ev ts).length) d) 3 1 ((tstarts G ev ts).length) (ints (tstarts G ev ts)), .row (.slice C ((lastS ts).caps.length) e) 3 1 ((lastS ts).caps.length) (ints (lastS ts).caps)]) (R := [_, _, _, _, _, _]) S) hok hlim hl1 (S.rd 4 rfl) (St.apartRow (A := [.obj g 128 [.int .i64 (G : Int), .int .i64 (ev : Int), .int .i64 lim, .slice A ((tbytes G ev ts).length) c, .slice B ((tstarts G ev ts).length) d, .int .i64 ((lastS ts).kind), .int .i64 ((lastS ts).node), .int .i64 ((lastS ts).phase), .int .i64 ((lastS ts).pos), .int .i64 ((lastS ts).start), .int .i64 ((lastS ts).depth), .int .i64 ((lastS ts).org), .slice C ((lastS ts).caps.length) e], .row (.slice A ((tbytes G ev ts).length) c) 5 1 ((tbytes G ev ts).length) (u8s (tbytes G ev ts)), .row (.slice B ((tstarts G ev ts).length) d) 3 1 ((tstarts G ev ts).length) (ints (tstarts G ev ts)), .row (.slice C ((lastS ts).caps.length) e) 3 1 ((lastS ts).caps.length) (ints (lastS ts).caps)]) (R := [_, _, _, _, _, _]) S 0 rfl) (by omega)) ?_; rintro e_ w ⟨rfl, Ax17, cx18, Bx19, dx20, Cx21, ex22, S_⟩; refine ⟨_, rfl, (fun h => by cases h), ?_⟩; clear E a; intro a E
      replace S : St _ _ _ [.obj _ _ [_, _, _, _, _, _, _, _, _, _, _, _, _], _, _, _, _, .obj _ _ [_, _, _, _, _, _, _, _], _, .obj _ _ [_, _, _, _, _, _, _, _], .obj _ _ [_, _, _, _, _, _, _, _], .obj _ _ [_, _, _]] := St.call (A := [.obj g 128 [.int .i64 (G : Int), .int .i64 (ev : Int), .int .i64 lim, .slice A ((tbytes G ev ts).length) c, .slice B ((tstarts G ev ts).length) d, .int .i64 ((lastS ts).kind), .int .i64 ((lastS ts).node), .int .i64 ((lastS ts).phase), .int .i64 ((lastS ts).pos), .int .i64 ((lastS ts).start), .int .i64 ((lastS ts).depth), .int .i64 ((lastS ts).org), .slice C ((lastS ts).caps.length) e], .row (.slice A ((tbytes G ev ts).length) c) 5 1 ((tbytes G ev ts).length) (u8s (tbytes G ev ts)), .row (.slice B ((tstarts G ev ts).length) d) 3 1 ((tstarts G ev ts).length) (ints (tstarts G ev ts)), .row (.slice C ((lastS ts).caps.length) e) 3 1 ((lastS ts).caps.length) (ints (lastS ts).caps)]) (R := [_, _, _, _, _, _]) S S_; clear S_
      refine Run.nei rfl E rfl rfl rfl rfl rfl ?_; clear E a; intro a E
      refine Run.pickF rfl E rfl rfl rfl rfl ?_; clear E a; intro a E
      refine Run.nilCheck rfl E rfl rfl rfl ?_; clear E a; intro a E
      refine Run.fieldAddr rfl E rfl rfl rfl fo120_2 (rfl) ?_; clear E a; intro a E
      refine Run.store (news := [.bool (decide (addE G ev lim ts t ≠ 0))]) (cs' := [_, _, _]) (hp' := [_, _, _, _, _, _, _, _, _, _]) 9 rfl E S rfl rfl rfl rfl rfl sz4 rfl rfl rfl rfl ?_; clear S; intro w S
      refine Run.nil ?_
      refine then_n ?_
      refine wp_seq ?_
      refine region_plain (n := 2) [(0, .l), (1, .l)] rfl rfl ?_
      refine Run.loadN (cs := [.int .i64 t.kind, .int .i64 t.node, .int .i64 t.phase, .int .i64 t.pos, .int .i64 t.start, .int .i64 t.depth, .int .i64 t.org, .slice D15 t.caps.length e16]) rfl rfl E S rfl rfl rfl ag34 rfl (fun _ s => objAll s 5 rfl) ?_; clear E a; intro a E
      refine Run.store (news := [.int .i64 t.kind, .int .i64 t.node, .int .i64 t.phase, .int .i64 t.pos, .int .i64 t.start, .int .i64 t.depth, .int .i64 t.org, .slice D15 t.caps.length e16]) (cs' := [_, _, _, _, _, _, _, _]) (hp' := [_, _, _, _, _, _, _, _, _, _]) 7 rfl E S rfl rfl rfl rfl rfl sz34 rfl rfl rfl rfl ?_; clear S; intro w S
      refine Run.nil ?_
      refine then_n ?_
      refine wp_ret ?_
      refine retN E (vs := [.agg #[.int .i64 t.kind, .int .i64 t.node, .int .i64 t.phase, .int .i64 t.pos, .int .i64 t.start, .int .i64 t.depth, .int .i64 t.org, .slice D15 t.caps.length e16]]) Try.results83 (.cell (E.slot _ _ rfl) (run_loadVarAgg ag34 rfl (objAll S 7 rfl)) .nil) rfl ⟨D15, e16, Ax17, cx18, Bx19, dx20, Cx21, ex22, rfl, ?_⟩
      have S : St _ _ _ [_, _, _, _, _, _, _, _, _, _] := S.sel [5, 6, 7, 8, 9, 0, 1, 2, 3, 4] _ rfl rfl
      have S := S.drop1.drop1.drop1.drop1
      exact S
    · skip
      exact RunT.none

set_option maxHeartbeats 4000000 in
theorem frec_err_l {A0 : Option Addr} {c0 : Nat} {a' : Int} {r : Nat} (H : Own w0 [.obj r 120 [.slice A0 b.length c0, .int .i64 (k : Int), .bool false], .obj g 128 [.int .i64 (G : Int), .int .i64 (ev : Int), .int .i64 lim, .slice A ((tbytes G ev ts).length) c, .slice B ((tstarts G ev ts).length) d, .int .i64 ((lastS ts).kind), .int .i64 ((lastS ts).node), .int .i64 ((lastS ts).phase), .int .i64 ((lastS ts).pos), .int .i64 ((lastS ts).start), .int .i64 ((lastS ts).depth), .int .i64 ((lastS ts).org), .slice C ((lastS ts).caps.length) e], .row (.slice A ((tbytes G ev ts).length) c) 5 1 ((tbytes G ev ts).length) (u8s (tbytes G ev ts)), .row (.slice B ((tstarts G ev ts).length) d) 3 1 ((tstarts G ev ts).length) (ints (tstarts G ev ts)), .row (.slice C ((lastS ts).caps.length) e) 3 1 ((lastS ts).caps.length) (ints (lastS ts).caps)]) (H1 : Rd w0 A0 b.length 1 (u8s b)) (hb8 : ∀ x ∈ b, x < 256) (hl : b.length ≤ 140737488355328) (hAw : 0 < b.length → ∀ b_ o, A0 = some ⟨b_, o, none⟩ → b_ ∉ fps [.obj r 120 [.slice A0 b.length c0, .int .i64 (k : Int), .bool false], .obj g 128 [.int .i64 (G : Int), .int .i64 (ev : Int), .int .i64 lim, .slice A ((tbytes G ev ts).length) c, .slice B ((tstarts G ev ts).length) d, .int .i64 ((lastS ts).kind), .int .i64 ((lastS ts).node), .int .i64 ((lastS ts).phase), .int .i64 ((lastS ts).pos), .int .i64 ((lastS ts).start), .int .i64 ((lastS ts).depth), .int .i64 ((lastS ts).org), .slice C ((lastS ts).caps.length) e], .row (.slice A ((tbytes G ev ts).length) c) 5 1 ((tbytes G ev ts).length) (u8s (tbytes G ev ts)), .row (.slice B ((tstarts G ev ts).length) d) 3 1 ((tstarts G ev ts).length) (ints (tstarts G ev ts)), .row (.slice C ((lastS ts).caps.length) e) 3 1 ((lastS ts).caps.length) (ints (lastS ts).caps)]) (hok : TapeOK G ev ts) (hlim : ((tbytes G ev ts).length : Int) ≤ lim) (hl1 : lim ≤ 16777216) (hk : k ≤ b.length) (HU : Rd w0 U u.caps.length 1 (ints u.caps)) (hUw : 0 < u.caps.length → ∀ b_ o, U = some ⟨b_, o, none⟩ → b_ ∉ fps [.obj r 120 [.slice A0 b.length c0, .int .i64 (k : Int), .bool false], .obj g 128 [.int .i64 (G : Int), .int .i64 (ev : Int), .int .i64 lim, .slice A ((tbytes G ev ts).length) c, .slice B ((tstarts G ev ts).length) d, .int .i64 ((lastS ts).kind), .int .i64 ((lastS ts).node), .int .i64 ((lastS ts).phase), .int .i64 ((lastS ts).pos), .int .i64 ((lastS ts).start), .int .i64 ((lastS ts).depth), .int .i64 ((lastS ts).org), .slice C ((lastS ts).caps.length) e], .row (.slice A ((tbytes G ev ts).length) c) 5 1 ((tbytes G ev ts).length) (u8s (tbytes G ev ts)), .row (.slice B ((tstarts G ev ts).length) d) 3 1 ((tstarts G ev ts).length) (ints (tstarts G ev ts)), .row (.slice C ((lastS ts).caps.length) e) 3 1 ((lastS ts).caps.length) (ints (lastS ts).caps)]) (hpv : u = prevS G ev ts ts.length) (hm : ts.length % ev ≠ 0) {er : Nat} (h : rdF u b (k : Int) = (a', er, t)) (he : er ≠ 0) : Calls Try.prog 83 [.pointer (some ⟨r, 0, none⟩), .pointer (some ⟨g, 0, none⟩), .agg #[.int .i64 u.kind, .int .i64 u.node, .int .i64 u.phase, .int .i64 u.pos, .int .i64 u.start, .int .i64 u.depth, .int .i64 u.org, .slice U u.caps.length q]].toArray w0 (fun r_ w' => r_ = .returned (.agg #[.int .i64 0, .int .i64 0, .int .i64 0, .int .i64 0, .int .i64 0, .int .i64 0, .int .i64 0, .slice none 0 0]) ∧ St (fps [.obj r 120 [.slice A0 b.length c0, .int .i64 (k : Int), .bool false], .obj g 128 [.int .i64 (G : Int), .int .i64 (ev : Int), .int .i64 lim, .slice A ((tbytes G ev ts).length) c, .slice B ((tstarts G ev ts).length) d, .int .i64 ((lastS ts).kind), .int .i64 ((lastS ts).node), .int .i64 ((lastS ts).phase), .int .i64 ((lastS ts).pos), .int .i64 ((lastS ts).start), .int .i64 ((lastS ts).depth), .int .i64 ((lastS ts).org), .slice C ((lastS ts).caps.length) e], .row (.slice A ((tbytes G ev ts).length) c) 5 1 ((tbytes G ev ts).length) (u8s (tbytes G ev ts)), .row (.slice B ((tstarts G ev ts).length) d) 3 1 ((tstarts G ev ts).length) (ints (tstarts G ev ts)), .row (.slice C ((lastS ts).caps.length) e) 3 1 ((lastS ts).caps.length) (ints (lastS ts).caps)]) w0 w' [.obj r 120 [.slice A0 b.length c0, .int .i64 (k : Int), .bool true], .obj g 128 [.int .i64 (G : Int), .int .i64 (ev : Int), .int .i64 lim, .slice A ((tbytes G ev ts).length) c, .slice B ((tstarts G ev ts).length) d, .int .i64 ((lastS ts).kind), .int .i64 ((lastS ts).node), .int .i64 ((lastS ts).phase), .int .i64 ((lastS ts).pos), .int .i64 ((lastS ts).start), .int .i64 ((lastS ts).depth), .int .i64 ((lastS ts).org), .slice C ((lastS ts).caps.length) e], .row (.slice A ((tbytes G ev ts).length) c) 5 1 ((tbytes G ev ts).length) (u8s (tbytes G ev ts)), .row (.slice B ((tstarts G ev ts).length) d) 3 1 ((tstarts G ev ts).length) (ints (tstarts G ev ts)), .row (.slice C ((lastS ts).caps.length) e) 3 1 ((lastS ts).caps.length) (ints (lastS ts).caps)]) := by
  have S := H.st
  obtain ⟨p1, p2, p3⟩ := hok.prev (Nat.le_refl ts.length)
  rw [← hpv] at p1 p2 p3
  have hgg := hok.g
  have he0 := hok.e0
  refine fn_start Try.func83 rfl 53 rfl rfl [(0, _), (1, _), (2, _)] ⟨rfl, rfl, rfl, trivial⟩ ?_; intro a E
  refine wp_seq ?_
  refine region_plain (n := 2) [(0, .e), (1, .e)] rfl rfl ?_
  refine Run.box (cs := [.int .i64 u.kind, .int .i64 u.node, .int .i64 u.phase, .int .i64 u.pos, .int .i64 u.start, .int .i64 u.depth, .int .i64 u.org, .slice U u.caps.length q]) rfl rfl E S rfl rfl rfl rfl ?_; clear E a S; intro b1 w a E S B_; clear B_
  refine Run.alloc rfl rfl E S rfl rfl z34 rfl ?_; clear E a S; intro b2 w a E S B_; clear B_
  refine Run.nil ?_
  refine then_n ?_
  refine wp_seq ?_
  refine wp_seq ?_
  refine region_plain (n := 6) [(0, .p), (1, .e), (2, .p), (3, .e), (4, .p), (5, .p)] rfl rfl ?_
  refine Run.move rfl E rfl rfl rfl ?_; clear E a; intro a E
  refine Run.call (args := [.pointer (some ⟨g, 0, none⟩)]) rfl rfl E rfl rfl Try.func38 nm38 rfl rfl (tape_len (St.holdsL (A := [.obj g 128 [.int .i64 (G : Int), .int .i64 (ev : Int), .int .i64 lim, .slice A ((tbytes G ev ts).length) c, .slice B ((tstarts G ev ts).length) d, .int .i64 ((lastS ts).kind), .int .i64 ((lastS ts).node), .int .i64 ((lastS ts).phase), .int .i64 ((lastS ts).pos), .int .i64 ((lastS ts).start), .int .i64 ((lastS ts).depth), .int .i64 ((lastS ts).org), .slice C ((lastS ts).caps.length) e], .row (.slice A ((tbytes G ev ts).length) c) 5 1 ((tbytes G ev ts).length) (u8s (tbytes G ev ts)), .row (.slice B ((tstarts G ev ts).length) d) 3 1 ((tstarts G ev ts).length) (ints (tstarts G ev ts)), .row (.slice C ((lastS ts).caps.length) e) 3 1 ((lastS ts).caps.length) (ints (lastS ts).caps)]) (R := [_, _, _]) (S.sel [3, 4, 5, 6, 0, 1, 2] ([.obj g 128 [.int .i64 (G : Int), .int .i64 (ev : Int), .int .i64 lim, .slice A ((tbytes G ev ts).length) c, .slice B ((tstarts G ev ts).length) d, .int .i64 ((lastS ts).kind), .int .i64 ((lastS ts).node), .int .i64 ((lastS ts).phase), .int .i64 ((lastS ts).pos), .int .i64 ((lastS ts).start), .int .i64 ((lastS ts).depth), .int .i64 ((lastS ts).org), .slice C ((lastS ts).caps.length) e], .row (.slice A ((tbytes G ev ts).length) c) 5 1 ((tbytes G ev ts).length) (u8s (tbytes G ev ts)), .row (.slice B ((tstarts G ev ts).length) d) 3 1 ((tstarts G ev ts).length) (ints (tstarts G ev ts)), .row (.slice C ((lastS ts).caps.length) e) 3 1 ((lastS ts).caps.length) (ints (lastS ts).caps)] ++ [_, _, _]) rfl rfl))) ?_; rintro e_ w ⟨rfl, B_⟩; refine ⟨_, rfl, fun _ => B_, ?_⟩; clear E a; replace S := S.bel B_; intro a E
  clear B_
  refine Run.move rfl E rfl rfl rfl ?_; clear E a; intro a E
  refine Run.call (args := [.pointer (some ⟨g, 0, none⟩)]) rfl rfl E rfl rfl Try.func39 nm39 rfl rfl (tape_every (St.holdsL (A := [.obj g 128 [.int .i64 (G : Int), .int .i64 (ev : Int), .int .i64 lim, .slice A ((tbytes G ev ts).length) c, .slice B ((tstarts G ev ts).length) d, .int .i64 ((lastS ts).kind), .int .i64 ((lastS ts).node), .int .i64 ((lastS ts).phase), .int .i64 ((lastS ts).pos), .int .i64 ((lastS ts).start), .int .i64 ((lastS ts).depth), .int .i64 ((lastS ts).org), .slice C ((lastS ts).caps.length) e], .row (.slice A ((tbytes G ev ts).length) c) 5 1 ((tbytes G ev ts).length) (u8s (tbytes G ev ts)), .row (.slice B ((tstarts G ev ts).length) d) 3 1 ((tstarts G ev ts).length) (ints (tstarts G ev ts)), .row (.slice C ((lastS ts).caps.length) e) 3 1 ((lastS ts).caps.length) (ints (lastS ts).caps)]) (R := [_, _, _]) (S.sel [3, 4, 5, 6, 0, 1, 2] ([.obj g 128 [.int .i64 (G : Int), .int .i64 (ev : Int), .int .i64 lim, .slice A ((tbytes G ev ts).length) c, .slice B ((tstarts G ev ts).length) d, .int .i64 ((lastS ts).kind), .int .i64 ((lastS ts).node), .int .i64 ((lastS ts).phase), .int .i64 ((lastS ts).pos), .int .i64 ((lastS ts).start), .int .i64 ((lastS ts).depth), .int .i64 ((lastS ts).org), .slice C ((lastS ts).caps.length) e], .row (.slice A ((tbytes G ev ts).length) c) 5 1 ((tbytes G ev ts).length) (u8s (tbytes G ev ts)), .row (.slice B ((tstarts G ev ts).length) d) 3 1 ((tstarts G ev ts).length) (ints (tstarts G ev ts)), .row (.slice C ((lastS ts).caps.length) e) 3 1 ((lastS ts).caps.length) (ints (lastS ts).caps)] ++ [_, _, _]) rfl rfl))) ?_; rintro e_ w ⟨rfl, B_⟩; refine ⟨_, rfl, fun _ => B_, ?_⟩; clear E a; replace S := S.bel B_; intro a E
  clear B_
  refine Run.rem rfl E rfl rfl rfl rfl (by omega) (q := ((ts.length % ev : Nat) : Int)) ((rem_nn _ _).trans (by rw [tstarts_len])) ?_; clear E a; intro a E
  refine Run.eqi rfl E rfl rfl rfl rfl (decide_eq_false (nat0 hm)) ?_; clear E a; intro a E
  refine Run.nil ?_
  refine then_n ?_
  refine cond_F E rfl ?_
  refine wp_skip ?_
  refine then_n ?_
  refine wp_seq ?_
  refine region_tree (n := 18) (.one 1 .p (.one 2 .p (.one 3 .p (.one 5 .p (.one 6 .p (.one 7 .p (.one 0 .t (.one 4 .t (.one 8 .t (.alt 9 (.one 10 .p (.one 11 .p (.one 12 .p (.one 13 .p (.one 14 .e (.one 15 .l (.one 16 .p (.one 17 .p .done)))))))) (.alt 14 (.one 9 .e (.one 10 .p (.one 11 .p (.one 12 .p (.one 13 .p (.one 15 .l (.one 16 .p (.one 17 .p .done)))))))) .none))))))))))) [0, 0, 2, 6, 14, 0, 32, 96, 224, 511, 1023, 2047, 2047, 2047, 0, 20479, 57343, 131071] S mixed rfl rfl (by kernel_rfl) (fun _ _ _ _ _ h => h) ?_; clear S; intro w S B_; clear B_
  refine RunT.one ?_
  refine Run.move rfl E rfl rfl rfl ?_; clear E a; intro a E
  refine RunT.end ?_
  refine RunT.one ?_
  refine Run.nilCheck rfl E rfl rfl rfl ?_; clear E a; intro a E
  refine RunT.end ?_
  refine RunT.one ?_
  refine Run.fieldAddr rfl E rfl rfl rfl fo120_0 (rfl) ?_; clear E a; intro a E
  refine RunT.end ?_
  refine RunT.one ?_
  refine Run.move rfl E rfl rfl rfl ?_; clear E a; intro a E
  refine RunT.end ?_
  refine RunT.one ?_
  refine Run.nilCheck rfl E rfl rfl rfl ?_; clear E a; intro a E
  refine RunT.end ?_
  refine RunT.one ?_
  refine Run.fieldAddr rfl E rfl rfl rfl fo120_1 (rfl) ?_; clear E a; intro a E
  refine RunT.end ?_
  refine RunT.one ?_
  refine Run.loadN (cs := [.int .i64 u.kind, .int .i64 u.node, .int .i64 u.phase, .int .i64 u.pos, .int .i64 u.start, .int .i64 u.depth, .int .i64 u.org, .slice U u.caps.length q]) rfl rfl E S rfl rfl rfl ag34 rfl (fun _ s => objAll s 1 rfl) ?_; clear E a; intro a E
  refine RunT.end ?_
  refine RunT.one ?_
  refine Run.load1 rfl rfl E S rfl rfl rfl one22 (fun _ s => s.objCell 2 0 rfl rfl) ?_; clear E a; intro a E
  refine RunT.end ?_
  refine RunT.one ?_
  refine Run.load1 rfl rfl E S rfl rfl rfl one3 (fun _ s => s.objCell 2 1 rfl rfl) ?_; clear E a; intro a E
  refine RunT.end ?_
  refine RunT.alt ?_ ?_
  · skip
    refine Run.call (args := [.agg #[.int .i64 u.kind, .int .i64 u.node, .int .i64 u.phase, .int .i64 u.pos, .int .i64 u.start, .int .i64 u.depth, .int .i64 u.org, .slice U u.caps.length q], .slice A0 b.length c0, .int .i64 (k : Int)]) rfl rfl E rfl rfl Try.func66 nm66 rfl rfl (read_err (t := t) (H1.chg S.chg hAw) hb8 hl (HU.chg S.chg hUw) p1 (Int.natCast_nonneg _) (by omega) (base_len p1) h he) ?_; rintro e_ w ⟨rfl, B_⟩; refine ⟨_, rfl, fun _ => B_, ?_⟩; clear E a; replace S := S.bel B_; intro a E
    clear B_
    refine RunT.end ?_
    refine RunT.one ?_
    refine Run.move rfl E rfl rfl rfl ?_; clear E a; intro a E
    refine RunT.end ?_
    refine RunT.one ?_
    refine Run.extract rfl E rfl rfl rfl rfl ?_; clear E a; intro a E
    refine RunT.end ?_
    refine RunT.one ?_
    refine Run.extract rfl E rfl rfl rfl rfl ?_; clear E a; intro a E
    refine RunT.end ?_
    refine RunT.one ?_
    refine Run.extract rfl E rfl rfl rfl rfl ?_; clear E a; intro a E
    refine RunT.end ?_
    refine RunT.one ?_
    refine Run.alloc rfl rfl E S rfl rfl z34 rfl ?_; clear E a S; intro b3 w a E S B_; clear B_
    refine RunT.end ?_
    refine RunT.one ?_
    refine Run.store (news := [.int .i64 0, .int .i64 0, .int .i64 0, .int .i64 0, .int .i64 0, .int .i64 0, .int .i64 0, .slice none 0 0]) (cs' := [_, _, _, _, _, _, _, _]) (hp' := [_, _, _, _, _, _, _, _]) 0 rfl E S rfl rfl rfl rfl rfl sz34 rfl rfl rfl rfl ?_; clear S; intro w S
    refine RunT.end ?_
    refine RunT.one ?_
    refine Run.assign rfl E rfl rfl rfl ?_; clear E a; intro a E
    refine RunT.end ?_
    refine RunT.one ?_
    refine Run.assign rfl E rfl rfl rfl ?_; clear E a; intro a E
    refine RunT.end ?_
    refine RunT.done ?_
    refine then_n ?_
    refine wp_seq ?_
    refine region_plain (n := 9) [(0, .p), (1, .p), (2, .p), (3, .l), (4, .p), (5, .p), (6, .p), (7, .p), (8, .l)] rfl rfl ?_
    refine Run.move rfl E rfl rfl rfl ?_; clear E a; intro a E
    refine Run.nilCheck rfl E rfl rfl rfl ?_; clear E a; intro a E
    refine Run.fieldAddr rfl E rfl rfl rfl fo120_1 (rfl) ?_; clear E a; intro a E
    refine Run.load1 rfl rfl E S rfl rfl rfl one3 (fun _ s => s.objCell 3 1 rfl rfl) ?_; clear E a; intro a E
    refine Run.move rfl E rfl rfl rfl ?_; clear E a; intro a E
    refine Run.add rfl E rfl rfl rfl rfl (q := ((k : Nat) : Int)) ((i64_ok (by omega)).trans (by omega)) ?_; clear E a; intro a E
    refine Run.nilCheck rfl E rfl rfl rfl ?_; clear E a; intro a E
    refine Run.fieldAddr rfl E rfl rfl rfl fo120_1 (rfl) ?_; clear E a; intro a E
    refine Run.store (news := [.int .i64 ((k : Nat) : Int)]) (cs' := [_, _, _]) (hp' := [_, _, _, _, _, _, _, _]) 3 rfl E S rfl rfl rfl rfl rfl sz3 rfl rfl rfl rfl ?_; clear S; intro w S
    refine Run.nil ?_
    refine then_n ?_
    refine wp_seq ?_
    refine region_plain (n := 12) [(0, .p), (1, .p), (2, .p), (3, .p), (4, .p), (5, .l), (6, .e), (7, .p), (8, .p), (9, .p), (10, .p), (11, .l)] rfl rfl ?_
    refine Run.move rfl E rfl rfl rfl ?_; clear E a; intro a E
    refine Run.move rfl E rfl rfl rfl ?_; clear E a; intro a E
    refine Run.nei rfl E rfl rfl rfl rfl (decide_eq_true (by omega)) ?_; clear E a; intro a E
    refine Run.move rfl E rfl rfl rfl ?_; clear E a; intro a E
    refine Run.off rfl E rfl rfl ?_; clear E a; intro a E
    refine Run.off rfl E rfl rfl ?_; clear E a; intro a E
    refine Run.off rfl E rfl rfl ?_; clear E a; intro a E
    refine Run.off rfl E rfl rfl ?_; clear E a; intro a E
    refine Run.pickT rfl E rfl rfl rfl rfl ?_; clear E a; intro a E
    refine Run.nilCheck rfl E rfl rfl rfl ?_; clear E a; intro a E
    refine Run.fieldAddr rfl E rfl rfl rfl fo120_2 (rfl) ?_; clear E a; intro a E
    refine Run.store (news := [.bool true]) (cs' := [_, _, _]) (hp' := [_, _, _, _, _, _, _, _]) 3 rfl E S rfl rfl rfl rfl rfl sz4 rfl rfl rfl rfl ?_; clear S; intro w S
    refine Run.nil ?_
    refine then_n ?_
    refine wp_seq ?_
    refine region_plain (n := 2) [(0, .l), (1, .l)] rfl rfl ?_
    refine Run.loadN (cs := [.int .i64 0, .int .i64 0, .int .i64 0, .int .i64 0, .int .i64 0, .int .i64 0, .int .i64 0, .slice none 0 0]) rfl rfl E S rfl rfl rfl ag34 rfl (fun _ s => objAll s 0 rfl) ?_; clear E a; intro a E
    refine Run.store (news := [.int .i64 0, .int .i64 0, .int .i64 0, .int .i64 0, .int .i64 0, .int .i64 0, .int .i64 0, .slice none 0 0]) (cs' := [_, _, _, _, _, _, _, _]) (hp' := [_, _, _, _, _, _, _, _]) 1 rfl E S rfl rfl rfl rfl rfl sz34 rfl rfl rfl rfl ?_; clear S; intro w S
    refine Run.nil ?_
    refine then_n ?_
    refine wp_ret ?_
    refine retN E (vs := [.agg #[.int .i64 0, .int .i64 0, .int .i64 0, .int .i64 0, .int .i64 0, .int .i64 0, .int .i64 0, .slice none 0 0]]) Try.results83 (.cell (E.slot _ _ rfl) (run_loadVarAgg ag34 rfl (objAll S 1 rfl)) .nil) rfl ⟨rfl, ?_⟩
    have S : St _ _ _ [_, _, _, _, _, _, _, _] := S.sel [0, 1, 2, 3, 4, 5, 6, 7] _ rfl rfl
    have S := S.drop1.drop1.drop1
    exact S
  · skip
    refine RunT.alt ?_ ?_
    · skip
      refine Run.alloc rfl rfl E S rfl rfl z34 rfl ?_; clear E a S; intro b4 w a E S B_; clear B_
      refine RunT.end ?_
      refine RunT.one ?_
      refine Run.call (args := [.agg #[.int .i64 u.kind, .int .i64 u.node, .int .i64 u.phase, .int .i64 u.pos, .int .i64 u.start, .int .i64 u.depth, .int .i64 u.org, .slice U u.caps.length q], .slice A0 b.length c0, .int .i64 (k : Int)]) rfl rfl E rfl rfl Try.func66 nm66 rfl rfl (read_err (t := t) (H1.chg S.chg hAw) hb8 hl (HU.chg S.chg hUw) p1 (Int.natCast_nonneg _) (by omega) (base_len p1) h he) ?_; rintro e_ w ⟨rfl, B_⟩; refine ⟨_, rfl, fun _ => B_, ?_⟩; clear E a; replace S := S.bel B_; intro a E
      clear B_
      refine RunT.end ?_
      refine RunT.one ?_
      refine Run.move rfl E rfl rfl rfl ?_; clear E a; intro a E
      refine RunT.end ?_
      refine RunT.one ?_
      refine Run.extract rfl E rfl rfl rfl rfl ?_; clear E a; intro a E
      refine RunT.end ?_
      refine RunT.one ?_
      refine Run.extract rfl E rfl rfl rfl rfl ?_; clear E a; intro a E
      refine RunT.end ?_
      refine RunT.one ?_
      refine Run.extract rfl E rfl rfl rfl rfl ?_; clear E a; intro a E
      refine RunT.end ?_
      refine RunT.one ?_
      refine Run.store (news := [.int .i64 0, .int .i64 0, .int .i64 0, .int .i64 0, .int .i64 0, .int .i64 0, .int .i64 0, .slice none 0 0]) (cs' := [_, _, _, _, _, _, _, _]) (hp' := [_, _, _, _, _, _, _, _]) 0 rfl E S rfl rfl rfl rfl rfl sz34 rfl rfl rfl rfl ?_; clear S; intro w S
      refine RunT.end ?_
      refine RunT.one ?_
      refine Run.assign rfl E rfl rfl rfl ?_; clear E a; intro a E
      refine RunT.end ?_
      refine RunT.one ?_
      refine Run.assign rfl E rfl rfl rfl ?_; clear E a; intro a E
      refine RunT.end ?_
      refine RunT.done ?_
      refine then_n ?_
      refine wp_seq ?_
      refine region_plain (n := 9) [(0, .p), (1, .p), (2, .p), (3, .l), (4, .p), (5, .p), (6, .p), (7, .p), (8, .l)] rfl rfl ?_
      refine Run.move rfl E rfl rfl rfl ?_; clear E a; intro a E
      refine Run.nilCheck rfl E rfl rfl rfl ?_; clear E a; intro a E
      refine Run.fieldAddr rfl E rfl rfl rfl fo120_1 (rfl) ?_; clear E a; intro a E
      refine Run.load1 rfl rfl E S rfl rfl rfl one3 (fun _ s => s.objCell 3 1 rfl rfl) ?_; clear E a; intro a E
      refine Run.move rfl E rfl rfl rfl ?_; clear E a; intro a E
      refine Run.add rfl E rfl rfl rfl rfl (q := ((k : Nat) : Int)) ((i64_ok (by omega)).trans (by omega)) ?_; clear E a; intro a E
      refine Run.nilCheck rfl E rfl rfl rfl ?_; clear E a; intro a E
      refine Run.fieldAddr rfl E rfl rfl rfl fo120_1 (rfl) ?_; clear E a; intro a E
      refine Run.store (news := [.int .i64 ((k : Nat) : Int)]) (cs' := [_, _, _]) (hp' := [_, _, _, _, _, _, _, _]) 3 rfl E S rfl rfl rfl rfl rfl sz3 rfl rfl rfl rfl ?_; clear S; intro w S
      refine Run.nil ?_
      refine then_n ?_
      refine wp_seq ?_
      refine region_plain (n := 12) [(0, .p), (1, .p), (2, .p), (3, .p), (4, .p), (5, .l), (6, .e), (7, .p), (8, .p), (9, .p), (10, .p), (11, .l)] rfl rfl ?_
      refine Run.move rfl E rfl rfl rfl ?_; clear E a; intro a E
      refine Run.move rfl E rfl rfl rfl ?_; clear E a; intro a E
      refine Run.nei rfl E rfl rfl rfl rfl (decide_eq_true (by omega)) ?_; clear E a; intro a E
      refine Run.move rfl E rfl rfl rfl ?_; clear E a; intro a E
      refine Run.off rfl E rfl rfl ?_; clear E a; intro a E
      refine Run.off rfl E rfl rfl ?_; clear E a; intro a E
      refine Run.off rfl E rfl rfl ?_; clear E a; intro a E
      refine Run.off rfl E rfl rfl ?_; clear E a; intro a E
      refine Run.pickT rfl E rfl rfl rfl rfl ?_; clear E a; intro a E
      refine Run.nilCheck rfl E rfl rfl rfl ?_; clear E a; intro a E
      refine Run.fieldAddr rfl E rfl rfl rfl fo120_2 (rfl) ?_; clear E a; intro a E
      refine Run.store (news := [.bool true]) (cs' := [_, _, _]) (hp' := [_, _, _, _, _, _, _, _]) 3 rfl E S rfl rfl rfl rfl rfl sz4 rfl rfl rfl rfl ?_; clear S; intro w S
      refine Run.nil ?_
      refine then_n ?_
      refine wp_seq ?_
      refine region_plain (n := 2) [(0, .l), (1, .l)] rfl rfl ?_
      refine Run.loadN (cs := [.int .i64 0, .int .i64 0, .int .i64 0, .int .i64 0, .int .i64 0, .int .i64 0, .int .i64 0, .slice none 0 0]) rfl rfl E S rfl rfl rfl ag34 rfl (fun _ s => objAll s 0 rfl) ?_; clear E a; intro a E
      refine Run.store (news := [.int .i64 0, .int .i64 0, .int .i64 0, .int .i64 0, .int .i64 0, .int .i64 0, .int .i64 0, .slice none 0 0]) (cs' := [_, _, _, _, _, _, _, _]) (hp' := [_, _, _, _, _, _, _, _]) 1 rfl E S rfl rfl rfl rfl rfl sz34 rfl rfl rfl rfl ?_; clear S; intro w S
      refine Run.nil ?_
      refine then_n ?_
      refine wp_ret ?_
      refine retN E (vs := [.agg #[.int .i64 0, .int .i64 0, .int .i64 0, .int .i64 0, .int .i64 0, .int .i64 0, .int .i64 0, .slice none 0 0]]) Try.results83 (.cell (E.slot _ _ rfl) (run_loadVarAgg ag34 rfl (objAll S 1 rfl)) .nil) rfl ⟨rfl, ?_⟩
      have S : St _ _ _ [_, _, _, _, _, _, _, _] := S.sel [0, 1, 2, 3, 4, 5, 6, 7] _ rfl rfl
      have S := S.drop1.drop1.drop1
      exact S
    · skip
      exact RunT.none

set_option maxHeartbeats 4000000 in
theorem frec_nor_l {A0 : Option Addr} {c0 : Nat} {a' : Int} {r : Nat} (H : Own w0 [.obj r 120 [.slice A0 b.length c0, .int .i64 (k : Int), .bool false], .obj g 128 [.int .i64 (G : Int), .int .i64 (ev : Int), .int .i64 lim, .slice A ((tbytes G ev ts).length) c, .slice B ((tstarts G ev ts).length) d, .int .i64 ((lastS ts).kind), .int .i64 ((lastS ts).node), .int .i64 ((lastS ts).phase), .int .i64 ((lastS ts).pos), .int .i64 ((lastS ts).start), .int .i64 ((lastS ts).depth), .int .i64 ((lastS ts).org), .slice C ((lastS ts).caps.length) e], .row (.slice A ((tbytes G ev ts).length) c) 5 1 ((tbytes G ev ts).length) (u8s (tbytes G ev ts)), .row (.slice B ((tstarts G ev ts).length) d) 3 1 ((tstarts G ev ts).length) (ints (tstarts G ev ts)), .row (.slice C ((lastS ts).caps.length) e) 3 1 ((lastS ts).caps.length) (ints (lastS ts).caps)]) (H1 : Rd w0 A0 b.length 1 (u8s b)) (hb8 : ∀ x ∈ b, x < 256) (hl : b.length ≤ 140737488355328) (hAw : 0 < b.length → ∀ b_ o, A0 = some ⟨b_, o, none⟩ → b_ ∉ fps [.obj r 120 [.slice A0 b.length c0, .int .i64 (k : Int), .bool false], .obj g 128 [.int .i64 (G : Int), .int .i64 (ev : Int), .int .i64 lim, .slice A ((tbytes G ev ts).length) c, .slice B ((tstarts G ev ts).length) d, .int .i64 ((lastS ts).kind), .int .i64 ((lastS ts).node), .int .i64 ((lastS ts).phase), .int .i64 ((lastS ts).pos), .int .i64 ((lastS ts).start), .int .i64 ((lastS ts).depth), .int .i64 ((lastS ts).org), .slice C ((lastS ts).caps.length) e], .row (.slice A ((tbytes G ev ts).length) c) 5 1 ((tbytes G ev ts).length) (u8s (tbytes G ev ts)), .row (.slice B ((tstarts G ev ts).length) d) 3 1 ((tstarts G ev ts).length) (ints (tstarts G ev ts)), .row (.slice C ((lastS ts).caps.length) e) 3 1 ((lastS ts).caps.length) (ints (lastS ts).caps)]) (hok : TapeOK G ev ts) (hlim : ((tbytes G ev ts).length : Int) ≤ lim) (hl1 : lim ≤ 16777216) (hk : k ≤ b.length) (HU : Rd w0 U u.caps.length 1 (ints u.caps)) (hUw : 0 < u.caps.length → ∀ b_ o, U = some ⟨b_, o, none⟩ → b_ ∉ fps [.obj r 120 [.slice A0 b.length c0, .int .i64 (k : Int), .bool false], .obj g 128 [.int .i64 (G : Int), .int .i64 (ev : Int), .int .i64 lim, .slice A ((tbytes G ev ts).length) c, .slice B ((tstarts G ev ts).length) d, .int .i64 ((lastS ts).kind), .int .i64 ((lastS ts).node), .int .i64 ((lastS ts).phase), .int .i64 ((lastS ts).pos), .int .i64 ((lastS ts).start), .int .i64 ((lastS ts).depth), .int .i64 ((lastS ts).org), .slice C ((lastS ts).caps.length) e], .row (.slice A ((tbytes G ev ts).length) c) 5 1 ((tbytes G ev ts).length) (u8s (tbytes G ev ts)), .row (.slice B ((tstarts G ev ts).length) d) 3 1 ((tstarts G ev ts).length) (ints (tstarts G ev ts)), .row (.slice C ((lastS ts).caps.length) e) 3 1 ((lastS ts).caps.length) (ints (lastS ts).caps)]) (hpv : u = prevS G ev ts ts.length) (hm : ts.length % ev ≠ 0) (h : rdF u b (k : Int) = (a', 0, t)) (hR : ¬ t.Right (G : Int)) : Calls Try.prog 83 [.pointer (some ⟨r, 0, none⟩), .pointer (some ⟨g, 0, none⟩), .agg #[.int .i64 u.kind, .int .i64 u.node, .int .i64 u.phase, .int .i64 u.pos, .int .i64 u.start, .int .i64 u.depth, .int .i64 u.org, .slice U u.caps.length q]].toArray w0 (fun r_ w' => r_ = .returned (.agg #[.int .i64 0, .int .i64 0, .int .i64 0, .int .i64 0, .int .i64 0, .int .i64 0, .int .i64 0, .slice none 0 0]) ∧ St (fps [.obj r 120 [.slice A0 b.length c0, .int .i64 (k : Int), .bool false], .obj g 128 [.int .i64 (G : Int), .int .i64 (ev : Int), .int .i64 lim, .slice A ((tbytes G ev ts).length) c, .slice B ((tstarts G ev ts).length) d, .int .i64 ((lastS ts).kind), .int .i64 ((lastS ts).node), .int .i64 ((lastS ts).phase), .int .i64 ((lastS ts).pos), .int .i64 ((lastS ts).start), .int .i64 ((lastS ts).depth), .int .i64 ((lastS ts).org), .slice C ((lastS ts).caps.length) e], .row (.slice A ((tbytes G ev ts).length) c) 5 1 ((tbytes G ev ts).length) (u8s (tbytes G ev ts)), .row (.slice B ((tstarts G ev ts).length) d) 3 1 ((tstarts G ev ts).length) (ints (tstarts G ev ts)), .row (.slice C ((lastS ts).caps.length) e) 3 1 ((lastS ts).caps.length) (ints (lastS ts).caps)]) w0 w' [.obj r 120 [.slice A0 b.length c0, .int .i64 (k : Int), .bool true], .obj g 128 [.int .i64 (G : Int), .int .i64 (ev : Int), .int .i64 lim, .slice A ((tbytes G ev ts).length) c, .slice B ((tstarts G ev ts).length) d, .int .i64 ((lastS ts).kind), .int .i64 ((lastS ts).node), .int .i64 ((lastS ts).phase), .int .i64 ((lastS ts).pos), .int .i64 ((lastS ts).start), .int .i64 ((lastS ts).depth), .int .i64 ((lastS ts).org), .slice C ((lastS ts).caps.length) e], .row (.slice A ((tbytes G ev ts).length) c) 5 1 ((tbytes G ev ts).length) (u8s (tbytes G ev ts)), .row (.slice B ((tstarts G ev ts).length) d) 3 1 ((tstarts G ev ts).length) (ints (tstarts G ev ts)), .row (.slice C ((lastS ts).caps.length) e) 3 1 ((lastS ts).caps.length) (ints (lastS ts).caps)]) := by
  have S := H.st
  obtain ⟨p1, p2, p3⟩ := hok.prev (Nat.le_refl ts.length)
  rw [← hpv] at p1 p2 p3
  have hgg := hok.g
  have he0 := hok.e0
  refine fn_start Try.func83 rfl 53 rfl rfl [(0, _), (1, _), (2, _)] ⟨rfl, rfl, rfl, trivial⟩ ?_; intro a E
  refine wp_seq ?_
  refine region_plain (n := 2) [(0, .e), (1, .e)] rfl rfl ?_
  refine Run.box (cs := [.int .i64 u.kind, .int .i64 u.node, .int .i64 u.phase, .int .i64 u.pos, .int .i64 u.start, .int .i64 u.depth, .int .i64 u.org, .slice U u.caps.length q]) rfl rfl E S rfl rfl rfl rfl ?_; clear E a S; intro b1 w a E S B_; clear B_
  refine Run.alloc rfl rfl E S rfl rfl z34 rfl ?_; clear E a S; intro b2 w a E S B_; clear B_
  refine Run.nil ?_
  refine then_n ?_
  refine wp_seq ?_
  refine wp_seq ?_
  refine region_plain (n := 6) [(0, .p), (1, .e), (2, .p), (3, .e), (4, .p), (5, .p)] rfl rfl ?_
  refine Run.move rfl E rfl rfl rfl ?_; clear E a; intro a E
  refine Run.call (args := [.pointer (some ⟨g, 0, none⟩)]) rfl rfl E rfl rfl Try.func38 nm38 rfl rfl (tape_len (St.holdsL (A := [.obj g 128 [.int .i64 (G : Int), .int .i64 (ev : Int), .int .i64 lim, .slice A ((tbytes G ev ts).length) c, .slice B ((tstarts G ev ts).length) d, .int .i64 ((lastS ts).kind), .int .i64 ((lastS ts).node), .int .i64 ((lastS ts).phase), .int .i64 ((lastS ts).pos), .int .i64 ((lastS ts).start), .int .i64 ((lastS ts).depth), .int .i64 ((lastS ts).org), .slice C ((lastS ts).caps.length) e], .row (.slice A ((tbytes G ev ts).length) c) 5 1 ((tbytes G ev ts).length) (u8s (tbytes G ev ts)), .row (.slice B ((tstarts G ev ts).length) d) 3 1 ((tstarts G ev ts).length) (ints (tstarts G ev ts)), .row (.slice C ((lastS ts).caps.length) e) 3 1 ((lastS ts).caps.length) (ints (lastS ts).caps)]) (R := [_, _, _]) (S.sel [3, 4, 5, 6, 0, 1, 2] ([.obj g 128 [.int .i64 (G : Int), .int .i64 (ev : Int), .int .i64 lim, .slice A ((tbytes G ev ts).length) c, .slice B ((tstarts G ev ts).length) d, .int .i64 ((lastS ts).kind), .int .i64 ((lastS ts).node), .int .i64 ((lastS ts).phase), .int .i64 ((lastS ts).pos), .int .i64 ((lastS ts).start), .int .i64 ((lastS ts).depth), .int .i64 ((lastS ts).org), .slice C ((lastS ts).caps.length) e], .row (.slice A ((tbytes G ev ts).length) c) 5 1 ((tbytes G ev ts).length) (u8s (tbytes G ev ts)), .row (.slice B ((tstarts G ev ts).length) d) 3 1 ((tstarts G ev ts).length) (ints (tstarts G ev ts)), .row (.slice C ((lastS ts).caps.length) e) 3 1 ((lastS ts).caps.length) (ints (lastS ts).caps)] ++ [_, _, _]) rfl rfl))) ?_; rintro e_ w ⟨rfl, B_⟩; refine ⟨_, rfl, fun _ => B_, ?_⟩; clear E a; replace S := S.bel B_; intro a E
  clear B_
  refine Run.move rfl E rfl rfl rfl ?_; clear E a; intro a E
  refine Run.call (args := [.pointer (some ⟨g, 0, none⟩)]) rfl rfl E rfl rfl Try.func39 nm39 rfl rfl (tape_every (St.holdsL (A := [.obj g 128 [.int .i64 (G : Int), .int .i64 (ev : Int), .int .i64 lim, .slice A ((tbytes G ev ts).length) c, .slice B ((tstarts G ev ts).length) d, .int .i64 ((lastS ts).kind), .int .i64 ((lastS ts).node), .int .i64 ((lastS ts).phase), .int .i64 ((lastS ts).pos), .int .i64 ((lastS ts).start), .int .i64 ((lastS ts).depth), .int .i64 ((lastS ts).org), .slice C ((lastS ts).caps.length) e], .row (.slice A ((tbytes G ev ts).length) c) 5 1 ((tbytes G ev ts).length) (u8s (tbytes G ev ts)), .row (.slice B ((tstarts G ev ts).length) d) 3 1 ((tstarts G ev ts).length) (ints (tstarts G ev ts)), .row (.slice C ((lastS ts).caps.length) e) 3 1 ((lastS ts).caps.length) (ints (lastS ts).caps)]) (R := [_, _, _]) (S.sel [3, 4, 5, 6, 0, 1, 2] ([.obj g 128 [.int .i64 (G : Int), .int .i64 (ev : Int), .int .i64 lim, .slice A ((tbytes G ev ts).length) c, .slice B ((tstarts G ev ts).length) d, .int .i64 ((lastS ts).kind), .int .i64 ((lastS ts).node), .int .i64 ((lastS ts).phase), .int .i64 ((lastS ts).pos), .int .i64 ((lastS ts).start), .int .i64 ((lastS ts).depth), .int .i64 ((lastS ts).org), .slice C ((lastS ts).caps.length) e], .row (.slice A ((tbytes G ev ts).length) c) 5 1 ((tbytes G ev ts).length) (u8s (tbytes G ev ts)), .row (.slice B ((tstarts G ev ts).length) d) 3 1 ((tstarts G ev ts).length) (ints (tstarts G ev ts)), .row (.slice C ((lastS ts).caps.length) e) 3 1 ((lastS ts).caps.length) (ints (lastS ts).caps)] ++ [_, _, _]) rfl rfl))) ?_; rintro e_ w ⟨rfl, B_⟩; refine ⟨_, rfl, fun _ => B_, ?_⟩; clear E a; replace S := S.bel B_; intro a E
  clear B_
  refine Run.rem rfl E rfl rfl rfl rfl (by omega) (q := ((ts.length % ev : Nat) : Int)) ((rem_nn _ _).trans (by rw [tstarts_len])) ?_; clear E a; intro a E
  refine Run.eqi rfl E rfl rfl rfl rfl (decide_eq_false (nat0 hm)) ?_; clear E a; intro a E
  refine Run.nil ?_
  refine then_n ?_
  refine cond_F E rfl ?_
  refine wp_skip ?_
  refine then_n ?_
  refine wp_seq ?_
  refine region_tree (n := 18) (.one 1 .p (.one 2 .p (.one 3 .p (.one 5 .p (.one 6 .p (.one 7 .p (.one 0 .t (.one 4 .t (.one 8 .t (.alt 9 (.one 10 .p (.one 11 .p (.one 12 .p (.one 13 .p (.one 14 .e (.one 15 .l (.one 16 .p (.one 17 .p .done)))))))) (.alt 14 (.one 9 .e (.one 10 .p (.one 11 .p (.one 12 .p (.one 13 .p (.one 15 .l (.one 16 .p (.one 17 .p .done)))))))) .none))))))))))) [0, 0, 2, 6, 14, 0, 32, 96, 224, 511, 1023, 2047, 2047, 2047, 0, 20479, 57343, 131071] S mixed rfl rfl (by kernel_rfl) (fun _ _ _ _ _ h => h) ?_; clear S; intro w S B_; clear B_
  refine RunT.one ?_
  refine Run.move rfl E rfl rfl rfl ?_; clear E a; intro a E
  refine RunT.end ?_
  refine RunT.one ?_
  refine Run.nilCheck rfl E rfl rfl rfl ?_; clear E a; intro a E
  refine RunT.end ?_
  refine RunT.one ?_
  refine Run.fieldAddr rfl E rfl rfl rfl fo120_0 (rfl) ?_; clear E a; intro a E
  refine RunT.end ?_
  refine RunT.one ?_
  refine Run.move rfl E rfl rfl rfl ?_; clear E a; intro a E
  refine RunT.end ?_
  refine RunT.one ?_
  refine Run.nilCheck rfl E rfl rfl rfl ?_; clear E a; intro a E
  refine RunT.end ?_
  refine RunT.one ?_
  refine Run.fieldAddr rfl E rfl rfl rfl fo120_1 (rfl) ?_; clear E a; intro a E
  refine RunT.end ?_
  refine RunT.one ?_
  refine Run.loadN (cs := [.int .i64 u.kind, .int .i64 u.node, .int .i64 u.phase, .int .i64 u.pos, .int .i64 u.start, .int .i64 u.depth, .int .i64 u.org, .slice U u.caps.length q]) rfl rfl E S rfl rfl rfl ag34 rfl (fun _ s => objAll s 1 rfl) ?_; clear E a; intro a E
  refine RunT.end ?_
  refine RunT.one ?_
  refine Run.load1 rfl rfl E S rfl rfl rfl one22 (fun _ s => s.objCell 2 0 rfl rfl) ?_; clear E a; intro a E
  refine RunT.end ?_
  refine RunT.one ?_
  refine Run.load1 rfl rfl E S rfl rfl rfl one3 (fun _ s => s.objCell 2 1 rfl rfl) ?_; clear E a; intro a E
  refine RunT.end ?_
  refine RunT.alt ?_ ?_
  · skip
    refine Run.call (args := [.agg #[.int .i64 u.kind, .int .i64 u.node, .int .i64 u.phase, .int .i64 u.pos, .int .i64 u.start, .int .i64 u.depth, .int .i64 u.org, .slice U u.caps.length q], .slice A0 b.length c0, .int .i64 (k : Int)]) rfl rfl E rfl rfl Try.func66 nm66 rfl rfl (read_nor (t := t) (H1.chg S.chg hAw) hb8 hl (HU.chg S.chg hUw) p1 (Int.natCast_nonneg _) (by omega) (base_len p1) h (by rw [p2]; exact hR)) ?_; rintro e_ w ⟨rfl, B_⟩; refine ⟨_, rfl, fun _ => B_, ?_⟩; clear E a; replace S := S.bel B_; intro a E
    clear B_
    refine RunT.end ?_
    refine RunT.one ?_
    refine Run.move rfl E rfl rfl rfl ?_; clear E a; intro a E
    refine RunT.end ?_
    refine RunT.one ?_
    refine Run.extract rfl E rfl rfl rfl rfl ?_; clear E a; intro a E
    refine RunT.end ?_
    refine RunT.one ?_
    refine Run.extract rfl E rfl rfl rfl rfl ?_; clear E a; intro a E
    refine RunT.end ?_
    refine RunT.one ?_
    refine Run.extract rfl E rfl rfl rfl rfl ?_; clear E a; intro a E
    refine RunT.end ?_
    refine RunT.one ?_
    refine Run.alloc rfl rfl E S rfl rfl z34 rfl ?_; clear E a S; intro b3 w a E S B_; clear B_
    refine RunT.end ?_
    refine RunT.one ?_
    refine Run.store (news := [.int .i64 0, .int .i64 0, .int .i64 0, .int .i64 0, .int .i64 0, .int .i64 0, .int .i64 0, .slice none 0 0]) (cs' := [_, _, _, _, _, _, _, _]) (hp' := [_, _, _, _, _, _, _, _]) 0 rfl E S rfl rfl rfl rfl rfl sz34 rfl rfl rfl rfl ?_; clear S; intro w S
    refine RunT.end ?_
    refine RunT.one ?_
    refine Run.assign rfl E rfl rfl rfl ?_; clear E a; intro a E
    refine RunT.end ?_
    refine RunT.one ?_
    refine Run.assign rfl E rfl rfl rfl ?_; clear E a; intro a E
    refine RunT.end ?_
    refine RunT.done ?_
    refine then_n ?_
    refine wp_seq ?_
    refine region_plain (n := 9) [(0, .p), (1, .p), (2, .p), (3, .l), (4, .p), (5, .p), (6, .p), (7, .p), (8, .l)] rfl rfl ?_
    refine Run.move rfl E rfl rfl rfl ?_; clear E a; intro a E
    refine Run.nilCheck rfl E rfl rfl rfl ?_; clear E a; intro a E
    refine Run.fieldAddr rfl E rfl rfl rfl fo120_1 (rfl) ?_; clear E a; intro a E
    refine Run.load1 rfl rfl E S rfl rfl rfl one3 (fun _ s => s.objCell 3 1 rfl rfl) ?_; clear E a; intro a E
    refine Run.move rfl E rfl rfl rfl ?_; clear E a; intro a E
    refine Run.add rfl E rfl rfl rfl rfl (q := ((k : Nat) : Int)) ((i64_ok (by omega)).trans (by omega)) ?_; clear E a; intro a E
    refine Run.nilCheck rfl E rfl rfl rfl ?_; clear E a; intro a E
    refine Run.fieldAddr rfl E rfl rfl rfl fo120_1 (rfl) ?_; clear E a; intro a E
    refine Run.store (news := [.int .i64 ((k : Nat) : Int)]) (cs' := [_, _, _]) (hp' := [_, _, _, _, _, _, _, _]) 3 rfl E S rfl rfl rfl rfl rfl sz3 rfl rfl rfl rfl ?_; clear S; intro w S
    refine Run.nil ?_
    refine then_n ?_
    refine wp_seq ?_
    refine region_plain (n := 12) [(0, .p), (1, .p), (2, .p), (3, .p), (4, .p), (5, .l), (6, .e), (7, .p), (8, .p), (9, .p), (10, .p), (11, .l)] rfl rfl ?_
    refine Run.move rfl E rfl rfl rfl ?_; clear E a; intro a E
    refine Run.move rfl E rfl rfl rfl ?_; clear E a; intro a E
    refine Run.nei rfl E rfl rfl rfl rfl (b := true) (by decide) ?_; clear E a; intro a E
    refine Run.move rfl E rfl rfl rfl ?_; clear E a; intro a E
    refine Run.off rfl E rfl rfl ?_; clear E a; intro a E
    refine Run.off rfl E rfl rfl ?_; clear E a; intro a E
    refine Run.off rfl E rfl rfl ?_; clear E a; intro a E
    refine Run.off rfl E rfl rfl ?_; clear E a; intro a E
    refine Run.pickT rfl E rfl rfl rfl rfl ?_; clear E a; intro a E
    refine Run.nilCheck rfl E rfl rfl rfl ?_; clear E a; intro a E
    refine Run.fieldAddr rfl E rfl rfl rfl fo120_2 (rfl) ?_; clear E a; intro a E
    refine Run.store (news := [.bool true]) (cs' := [_, _, _]) (hp' := [_, _, _, _, _, _, _, _]) 3 rfl E S rfl rfl rfl rfl rfl sz4 rfl rfl rfl rfl ?_; clear S; intro w S
    refine Run.nil ?_
    refine then_n ?_
    refine wp_seq ?_
    refine region_plain (n := 2) [(0, .l), (1, .l)] rfl rfl ?_
    refine Run.loadN (cs := [.int .i64 0, .int .i64 0, .int .i64 0, .int .i64 0, .int .i64 0, .int .i64 0, .int .i64 0, .slice none 0 0]) rfl rfl E S rfl rfl rfl ag34 rfl (fun _ s => objAll s 0 rfl) ?_; clear E a; intro a E
    refine Run.store (news := [.int .i64 0, .int .i64 0, .int .i64 0, .int .i64 0, .int .i64 0, .int .i64 0, .int .i64 0, .slice none 0 0]) (cs' := [_, _, _, _, _, _, _, _]) (hp' := [_, _, _, _, _, _, _, _]) 1 rfl E S rfl rfl rfl rfl rfl sz34 rfl rfl rfl rfl ?_; clear S; intro w S
    refine Run.nil ?_
    refine then_n ?_
    refine wp_ret ?_
    refine retN E (vs := [.agg #[.int .i64 0, .int .i64 0, .int .i64 0, .int .i64 0, .int .i64 0, .int .i64 0, .int .i64 0, .slice none 0 0]]) Try.results83 (.cell (E.slot _ _ rfl) (run_loadVarAgg ag34 rfl (objAll S 1 rfl)) .nil) rfl ⟨rfl, ?_⟩
    have S : St _ _ _ [_, _, _, _, _, _, _, _] := S.sel [0, 1, 2, 3, 4, 5, 6, 7] _ rfl rfl
    have S := S.drop1.drop1.drop1
    exact S
  · skip
    refine RunT.alt ?_ ?_
    · skip
      refine Run.alloc rfl rfl E S rfl rfl z34 rfl ?_; clear E a S; intro b4 w a E S B_; clear B_
      refine RunT.end ?_
      refine RunT.one ?_
      refine Run.call (args := [.agg #[.int .i64 u.kind, .int .i64 u.node, .int .i64 u.phase, .int .i64 u.pos, .int .i64 u.start, .int .i64 u.depth, .int .i64 u.org, .slice U u.caps.length q], .slice A0 b.length c0, .int .i64 (k : Int)]) rfl rfl E rfl rfl Try.func66 nm66 rfl rfl (read_nor (t := t) (H1.chg S.chg hAw) hb8 hl (HU.chg S.chg hUw) p1 (Int.natCast_nonneg _) (by omega) (base_len p1) h (by rw [p2]; exact hR)) ?_; rintro e_ w ⟨rfl, B_⟩; refine ⟨_, rfl, fun _ => B_, ?_⟩; clear E a; replace S := S.bel B_; intro a E
      clear B_
      refine RunT.end ?_
      refine RunT.one ?_
      refine Run.move rfl E rfl rfl rfl ?_; clear E a; intro a E
      refine RunT.end ?_
      refine RunT.one ?_
      refine Run.extract rfl E rfl rfl rfl rfl ?_; clear E a; intro a E
      refine RunT.end ?_
      refine RunT.one ?_
      refine Run.extract rfl E rfl rfl rfl rfl ?_; clear E a; intro a E
      refine RunT.end ?_
      refine RunT.one ?_
      refine Run.extract rfl E rfl rfl rfl rfl ?_; clear E a; intro a E
      refine RunT.end ?_
      refine RunT.one ?_
      refine Run.store (news := [.int .i64 0, .int .i64 0, .int .i64 0, .int .i64 0, .int .i64 0, .int .i64 0, .int .i64 0, .slice none 0 0]) (cs' := [_, _, _, _, _, _, _, _]) (hp' := [_, _, _, _, _, _, _, _]) 0 rfl E S rfl rfl rfl rfl rfl sz34 rfl rfl rfl rfl ?_; clear S; intro w S
      refine RunT.end ?_
      refine RunT.one ?_
      refine Run.assign rfl E rfl rfl rfl ?_; clear E a; intro a E
      refine RunT.end ?_
      refine RunT.one ?_
      refine Run.assign rfl E rfl rfl rfl ?_; clear E a; intro a E
      refine RunT.end ?_
      refine RunT.done ?_
      refine then_n ?_
      refine wp_seq ?_
      refine region_plain (n := 9) [(0, .p), (1, .p), (2, .p), (3, .l), (4, .p), (5, .p), (6, .p), (7, .p), (8, .l)] rfl rfl ?_
      refine Run.move rfl E rfl rfl rfl ?_; clear E a; intro a E
      refine Run.nilCheck rfl E rfl rfl rfl ?_; clear E a; intro a E
      refine Run.fieldAddr rfl E rfl rfl rfl fo120_1 (rfl) ?_; clear E a; intro a E
      refine Run.load1 rfl rfl E S rfl rfl rfl one3 (fun _ s => s.objCell 3 1 rfl rfl) ?_; clear E a; intro a E
      refine Run.move rfl E rfl rfl rfl ?_; clear E a; intro a E
      refine Run.add rfl E rfl rfl rfl rfl (q := ((k : Nat) : Int)) ((i64_ok (by omega)).trans (by omega)) ?_; clear E a; intro a E
      refine Run.nilCheck rfl E rfl rfl rfl ?_; clear E a; intro a E
      refine Run.fieldAddr rfl E rfl rfl rfl fo120_1 (rfl) ?_; clear E a; intro a E
      refine Run.store (news := [.int .i64 ((k : Nat) : Int)]) (cs' := [_, _, _]) (hp' := [_, _, _, _, _, _, _, _]) 3 rfl E S rfl rfl rfl rfl rfl sz3 rfl rfl rfl rfl ?_; clear S; intro w S
      refine Run.nil ?_
      refine then_n ?_
      refine wp_seq ?_
      refine region_plain (n := 12) [(0, .p), (1, .p), (2, .p), (3, .p), (4, .p), (5, .l), (6, .e), (7, .p), (8, .p), (9, .p), (10, .p), (11, .l)] rfl rfl ?_
      refine Run.move rfl E rfl rfl rfl ?_; clear E a; intro a E
      refine Run.move rfl E rfl rfl rfl ?_; clear E a; intro a E
      refine Run.nei rfl E rfl rfl rfl rfl (b := true) (by decide) ?_; clear E a; intro a E
      refine Run.move rfl E rfl rfl rfl ?_; clear E a; intro a E
      refine Run.off rfl E rfl rfl ?_; clear E a; intro a E
      refine Run.off rfl E rfl rfl ?_; clear E a; intro a E
      refine Run.off rfl E rfl rfl ?_; clear E a; intro a E
      refine Run.off rfl E rfl rfl ?_; clear E a; intro a E
      refine Run.pickT rfl E rfl rfl rfl rfl ?_; clear E a; intro a E
      refine Run.nilCheck rfl E rfl rfl rfl ?_; clear E a; intro a E
      refine Run.fieldAddr rfl E rfl rfl rfl fo120_2 (rfl) ?_; clear E a; intro a E
      refine Run.store (news := [.bool true]) (cs' := [_, _, _]) (hp' := [_, _, _, _, _, _, _, _]) 3 rfl E S rfl rfl rfl rfl rfl sz4 rfl rfl rfl rfl ?_; clear S; intro w S
      refine Run.nil ?_
      refine then_n ?_
      refine wp_seq ?_
      refine region_plain (n := 2) [(0, .l), (1, .l)] rfl rfl ?_
      refine Run.loadN (cs := [.int .i64 0, .int .i64 0, .int .i64 0, .int .i64 0, .int .i64 0, .int .i64 0, .int .i64 0, .slice none 0 0]) rfl rfl E S rfl rfl rfl ag34 rfl (fun _ s => objAll s 0 rfl) ?_; clear E a; intro a E
      refine Run.store (news := [.int .i64 0, .int .i64 0, .int .i64 0, .int .i64 0, .int .i64 0, .int .i64 0, .int .i64 0, .slice none 0 0]) (cs' := [_, _, _, _, _, _, _, _]) (hp' := [_, _, _, _, _, _, _, _]) 1 rfl E S rfl rfl rfl rfl rfl sz34 rfl rfl rfl rfl ?_; clear S; intro w S
      refine Run.nil ?_
      refine then_n ?_
      refine wp_ret ?_
      refine retN E (vs := [.agg #[.int .i64 0, .int .i64 0, .int .i64 0, .int .i64 0, .int .i64 0, .int .i64 0, .int .i64 0, .slice none 0 0]]) Try.results83 (.cell (E.slot _ _ rfl) (run_loadVarAgg ag34 rfl (objAll S 1 rfl)) .nil) rfl ⟨rfl, ?_⟩
      have S : St _ _ _ [_, _, _, _, _, _, _, _] := S.sel [0, 1, 2, 3, 4, 5, 6, 7] _ rfl rfl
      have S := S.drop1.drop1.drop1
      exact S
    · skip
      exact RunT.none

set_option maxHeartbeats 4000000 in
theorem frec_ok_l {A0 : Option Addr} {c0 : Nat} {r : Nat} (H : Own w0 [.obj r 120 [.slice A0 b.length c0, .int .i64 (k : Int), .bool false], .obj g 128 [.int .i64 (G : Int), .int .i64 (ev : Int), .int .i64 lim, .slice A ((tbytes G ev ts).length) c, .slice B ((tstarts G ev ts).length) d, .int .i64 ((lastS ts).kind), .int .i64 ((lastS ts).node), .int .i64 ((lastS ts).phase), .int .i64 ((lastS ts).pos), .int .i64 ((lastS ts).start), .int .i64 ((lastS ts).depth), .int .i64 ((lastS ts).org), .slice C ((lastS ts).caps.length) e], .row (.slice A ((tbytes G ev ts).length) c) 5 1 ((tbytes G ev ts).length) (u8s (tbytes G ev ts)), .row (.slice B ((tstarts G ev ts).length) d) 3 1 ((tstarts G ev ts).length) (ints (tstarts G ev ts)), .row (.slice C ((lastS ts).caps.length) e) 3 1 ((lastS ts).caps.length) (ints (lastS ts).caps)]) (H1 : Rd w0 A0 b.length 1 (u8s b)) (hb8 : ∀ x ∈ b, x < 256) (hl : b.length ≤ 140737488355328) (hAw : 0 < b.length → ∀ b_ o, A0 = some ⟨b_, o, none⟩ → b_ ∉ fps [.obj r 120 [.slice A0 b.length c0, .int .i64 (k : Int), .bool false], .obj g 128 [.int .i64 (G : Int), .int .i64 (ev : Int), .int .i64 lim, .slice A ((tbytes G ev ts).length) c, .slice B ((tstarts G ev ts).length) d, .int .i64 ((lastS ts).kind), .int .i64 ((lastS ts).node), .int .i64 ((lastS ts).phase), .int .i64 ((lastS ts).pos), .int .i64 ((lastS ts).start), .int .i64 ((lastS ts).depth), .int .i64 ((lastS ts).org), .slice C ((lastS ts).caps.length) e], .row (.slice A ((tbytes G ev ts).length) c) 5 1 ((tbytes G ev ts).length) (u8s (tbytes G ev ts)), .row (.slice B ((tstarts G ev ts).length) d) 3 1 ((tstarts G ev ts).length) (ints (tstarts G ev ts)), .row (.slice C ((lastS ts).caps.length) e) 3 1 ((lastS ts).caps.length) (ints (lastS ts).caps)]) (hok : TapeOK G ev ts) (hlim : ((tbytes G ev ts).length : Int) ≤ lim) (hl1 : lim ≤ 16777216) (hk : k ≤ b.length) (HU : Rd w0 U u.caps.length 1 (ints u.caps)) (hUw : 0 < u.caps.length → ∀ b_ o, U = some ⟨b_, o, none⟩ → b_ ∉ fps [.obj r 120 [.slice A0 b.length c0, .int .i64 (k : Int), .bool false], .obj g 128 [.int .i64 (G : Int), .int .i64 (ev : Int), .int .i64 lim, .slice A ((tbytes G ev ts).length) c, .slice B ((tstarts G ev ts).length) d, .int .i64 ((lastS ts).kind), .int .i64 ((lastS ts).node), .int .i64 ((lastS ts).phase), .int .i64 ((lastS ts).pos), .int .i64 ((lastS ts).start), .int .i64 ((lastS ts).depth), .int .i64 ((lastS ts).org), .slice C ((lastS ts).caps.length) e], .row (.slice A ((tbytes G ev ts).length) c) 5 1 ((tbytes G ev ts).length) (u8s (tbytes G ev ts)), .row (.slice B ((tstarts G ev ts).length) d) 3 1 ((tstarts G ev ts).length) (ints (tstarts G ev ts)), .row (.slice C ((lastS ts).caps.length) e) 3 1 ((lastS ts).caps.length) (ints (lastS ts).caps)]) (hpv : u = prevS G ev ts ts.length) (hm : ts.length % ev ≠ 0) (h : rdF u b (k : Int) = (((k + n : Nat) : Int), 0, t)) (hn : k + n ≤ b.length) (hR : t.Right (G : Int)) : Calls Try.prog 83 [.pointer (some ⟨r, 0, none⟩), .pointer (some ⟨g, 0, none⟩), .agg #[.int .i64 u.kind, .int .i64 u.node, .int .i64 u.phase, .int .i64 u.pos, .int .i64 u.start, .int .i64 u.depth, .int .i64 u.org, .slice U u.caps.length q]].toArray w0 (fun r_ w' => ∃ D e_ A' c' B' d' C' e', r_ = .returned (.agg #[.int .i64 t.kind, .int .i64 t.node, .int .i64 t.phase, .int .i64 t.pos, .int .i64 t.start, .int .i64 t.depth, .int .i64 t.org, .slice D t.caps.length e_]) ∧ St (fps [.obj r 120 [.slice A0 b.length c0, .int .i64 (k : Int), .bool false], .obj g 128 [.int .i64 (G : Int), .int .i64 (ev : Int), .int .i64 lim, .slice A ((tbytes G ev ts).length) c, .slice B ((tstarts G ev ts).length) d, .int .i64 ((lastS ts).kind), .int .i64 ((lastS ts).node), .int .i64 ((lastS ts).phase), .int .i64 ((lastS ts).pos), .int .i64 ((lastS ts).start), .int .i64 ((lastS ts).depth), .int .i64 ((lastS ts).org), .slice C ((lastS ts).caps.length) e], .row (.slice A ((tbytes G ev ts).length) c) 5 1 ((tbytes G ev ts).length) (u8s (tbytes G ev ts)), .row (.slice B ((tstarts G ev ts).length) d) 3 1 ((tstarts G ev ts).length) (ints (tstarts G ev ts)), .row (.slice C ((lastS ts).caps.length) e) 3 1 ((lastS ts).caps.length) (ints (lastS ts).caps)]) w0 w' [.obj r 120 [.slice A0 b.length c0, .int .i64 ((k + n : Nat) : Int), .bool (decide (addE G ev lim ts t ≠ 0))], .obj g 128 [.int .i64 (G : Int), .int .i64 (ev : Int), .int .i64 lim, .slice (A') ((tbytes G ev (addT G ev lim ts t)).length) (c'), .slice (B') ((tstarts G ev (addT G ev lim ts t)).length) (d'), .int .i64 ((lastS (addT G ev lim ts t)).kind), .int .i64 ((lastS (addT G ev lim ts t)).node), .int .i64 ((lastS (addT G ev lim ts t)).phase), .int .i64 ((lastS (addT G ev lim ts t)).pos), .int .i64 ((lastS (addT G ev lim ts t)).start), .int .i64 ((lastS (addT G ev lim ts t)).depth), .int .i64 ((lastS (addT G ev lim ts t)).org), .slice (C') ((lastS (addT G ev lim ts t)).caps.length) (e')], .row (.slice (A') ((tbytes G ev (addT G ev lim ts t)).length) (c')) 5 1 ((tbytes G ev (addT G ev lim ts t)).length) (u8s (tbytes G ev (addT G ev lim ts t))), .row (.slice (B') ((tstarts G ev (addT G ev lim ts t)).length) (d')) 3 1 ((tstarts G ev (addT G ev lim ts t)).length) (ints (tstarts G ev (addT G ev lim ts t))), .row (.slice (C') ((lastS (addT G ev lim ts t)).caps.length) (e')) 3 1 ((lastS (addT G ev lim ts t)).caps.length) (ints (lastS (addT G ev lim ts t)).caps), .row (.slice D t.caps.length e_) 3 1 t.caps.length (ints t.caps)]) := by
  have S := H.st
  obtain ⟨p1, p2, p3⟩ := hok.prev (Nat.le_refl ts.length)
  rw [← hpv] at p1 p2 p3
  have hgg := hok.g
  have he0 := hok.e0
  have hcl := right_capl hR
  refine fn_start Try.func83 rfl 53 rfl rfl [(0, _), (1, _), (2, _)] ⟨rfl, rfl, rfl, trivial⟩ ?_; intro a E
  refine wp_seq ?_
  refine region_plain (n := 2) [(0, .e), (1, .e)] rfl rfl ?_
  refine Run.box (cs := [.int .i64 u.kind, .int .i64 u.node, .int .i64 u.phase, .int .i64 u.pos, .int .i64 u.start, .int .i64 u.depth, .int .i64 u.org, .slice U u.caps.length q]) rfl rfl E S rfl rfl rfl rfl ?_; clear E a S; intro b1 w a E S B_; clear B_
  refine Run.alloc rfl rfl E S rfl rfl z34 rfl ?_; clear E a S; intro b2 w a E S B_; clear B_
  refine Run.nil ?_
  refine then_n ?_
  refine wp_seq ?_
  refine wp_seq ?_
  refine region_plain (n := 6) [(0, .p), (1, .e), (2, .p), (3, .e), (4, .p), (5, .p)] rfl rfl ?_
  refine Run.move rfl E rfl rfl rfl ?_; clear E a; intro a E
  refine Run.call (args := [.pointer (some ⟨g, 0, none⟩)]) rfl rfl E rfl rfl Try.func38 nm38 rfl rfl (tape_len (St.holdsL (A := [.obj g 128 [.int .i64 (G : Int), .int .i64 (ev : Int), .int .i64 lim, .slice A ((tbytes G ev ts).length) c, .slice B ((tstarts G ev ts).length) d, .int .i64 ((lastS ts).kind), .int .i64 ((lastS ts).node), .int .i64 ((lastS ts).phase), .int .i64 ((lastS ts).pos), .int .i64 ((lastS ts).start), .int .i64 ((lastS ts).depth), .int .i64 ((lastS ts).org), .slice C ((lastS ts).caps.length) e], .row (.slice A ((tbytes G ev ts).length) c) 5 1 ((tbytes G ev ts).length) (u8s (tbytes G ev ts)), .row (.slice B ((tstarts G ev ts).length) d) 3 1 ((tstarts G ev ts).length) (ints (tstarts G ev ts)), .row (.slice C ((lastS ts).caps.length) e) 3 1 ((lastS ts).caps.length) (ints (lastS ts).caps)]) (R := [_, _, _]) (S.sel [3, 4, 5, 6, 0, 1, 2] ([.obj g 128 [.int .i64 (G : Int), .int .i64 (ev : Int), .int .i64 lim, .slice A ((tbytes G ev ts).length) c, .slice B ((tstarts G ev ts).length) d, .int .i64 ((lastS ts).kind), .int .i64 ((lastS ts).node), .int .i64 ((lastS ts).phase), .int .i64 ((lastS ts).pos), .int .i64 ((lastS ts).start), .int .i64 ((lastS ts).depth), .int .i64 ((lastS ts).org), .slice C ((lastS ts).caps.length) e], .row (.slice A ((tbytes G ev ts).length) c) 5 1 ((tbytes G ev ts).length) (u8s (tbytes G ev ts)), .row (.slice B ((tstarts G ev ts).length) d) 3 1 ((tstarts G ev ts).length) (ints (tstarts G ev ts)), .row (.slice C ((lastS ts).caps.length) e) 3 1 ((lastS ts).caps.length) (ints (lastS ts).caps)] ++ [_, _, _]) rfl rfl))) ?_; rintro e_ w ⟨rfl, B_⟩; refine ⟨_, rfl, fun _ => B_, ?_⟩; clear E a; replace S := S.bel B_; intro a E
  clear B_
  refine Run.move rfl E rfl rfl rfl ?_; clear E a; intro a E
  refine Run.call (args := [.pointer (some ⟨g, 0, none⟩)]) rfl rfl E rfl rfl Try.func39 nm39 rfl rfl (tape_every (St.holdsL (A := [.obj g 128 [.int .i64 (G : Int), .int .i64 (ev : Int), .int .i64 lim, .slice A ((tbytes G ev ts).length) c, .slice B ((tstarts G ev ts).length) d, .int .i64 ((lastS ts).kind), .int .i64 ((lastS ts).node), .int .i64 ((lastS ts).phase), .int .i64 ((lastS ts).pos), .int .i64 ((lastS ts).start), .int .i64 ((lastS ts).depth), .int .i64 ((lastS ts).org), .slice C ((lastS ts).caps.length) e], .row (.slice A ((tbytes G ev ts).length) c) 5 1 ((tbytes G ev ts).length) (u8s (tbytes G ev ts)), .row (.slice B ((tstarts G ev ts).length) d) 3 1 ((tstarts G ev ts).length) (ints (tstarts G ev ts)), .row (.slice C ((lastS ts).caps.length) e) 3 1 ((lastS ts).caps.length) (ints (lastS ts).caps)]) (R := [_, _, _]) (S.sel [3, 4, 5, 6, 0, 1, 2] ([.obj g 128 [.int .i64 (G : Int), .int .i64 (ev : Int), .int .i64 lim, .slice A ((tbytes G ev ts).length) c, .slice B ((tstarts G ev ts).length) d, .int .i64 ((lastS ts).kind), .int .i64 ((lastS ts).node), .int .i64 ((lastS ts).phase), .int .i64 ((lastS ts).pos), .int .i64 ((lastS ts).start), .int .i64 ((lastS ts).depth), .int .i64 ((lastS ts).org), .slice C ((lastS ts).caps.length) e], .row (.slice A ((tbytes G ev ts).length) c) 5 1 ((tbytes G ev ts).length) (u8s (tbytes G ev ts)), .row (.slice B ((tstarts G ev ts).length) d) 3 1 ((tstarts G ev ts).length) (ints (tstarts G ev ts)), .row (.slice C ((lastS ts).caps.length) e) 3 1 ((lastS ts).caps.length) (ints (lastS ts).caps)] ++ [_, _, _]) rfl rfl))) ?_; rintro e_ w ⟨rfl, B_⟩; refine ⟨_, rfl, fun _ => B_, ?_⟩; clear E a; replace S := S.bel B_; intro a E
  clear B_
  refine Run.rem rfl E rfl rfl rfl rfl (by omega) (q := ((ts.length % ev : Nat) : Int)) ((rem_nn _ _).trans (by rw [tstarts_len])) ?_; clear E a; intro a E
  refine Run.eqi rfl E rfl rfl rfl rfl (decide_eq_false (nat0 hm)) ?_; clear E a; intro a E
  refine Run.nil ?_
  refine then_n ?_
  refine cond_F E rfl ?_
  refine wp_skip ?_
  refine then_n ?_
  refine wp_seq ?_
  refine region_tree (n := 18) (.one 1 .p (.one 2 .p (.one 3 .p (.one 5 .p (.one 6 .p (.one 7 .p (.one 0 .t (.one 4 .t (.one 8 .t (.alt 9 (.one 10 .p (.one 11 .p (.one 12 .p (.one 13 .p (.one 14 .e (.one 15 .l (.one 16 .p (.one 17 .p .done)))))))) (.alt 14 (.one 9 .e (.one 10 .p (.one 11 .p (.one 12 .p (.one 13 .p (.one 15 .l (.one 16 .p (.one 17 .p .done)))))))) .none))))))))))) [0, 0, 2, 6, 14, 0, 32, 96, 224, 511, 1023, 2047, 2047, 2047, 0, 20479, 57343, 131071] S mixed rfl rfl (by kernel_rfl) (fun _ _ _ _ _ h => h) ?_; clear S; intro w S B_; clear B_
  refine RunT.one ?_
  refine Run.move rfl E rfl rfl rfl ?_; clear E a; intro a E
  refine RunT.end ?_
  refine RunT.one ?_
  refine Run.nilCheck rfl E rfl rfl rfl ?_; clear E a; intro a E
  refine RunT.end ?_
  refine RunT.one ?_
  refine Run.fieldAddr rfl E rfl rfl rfl fo120_0 (rfl) ?_; clear E a; intro a E
  refine RunT.end ?_
  refine RunT.one ?_
  refine Run.move rfl E rfl rfl rfl ?_; clear E a; intro a E
  refine RunT.end ?_
  refine RunT.one ?_
  refine Run.nilCheck rfl E rfl rfl rfl ?_; clear E a; intro a E
  refine RunT.end ?_
  refine RunT.one ?_
  refine Run.fieldAddr rfl E rfl rfl rfl fo120_1 (rfl) ?_; clear E a; intro a E
  refine RunT.end ?_
  refine RunT.one ?_
  refine Run.loadN (cs := [.int .i64 u.kind, .int .i64 u.node, .int .i64 u.phase, .int .i64 u.pos, .int .i64 u.start, .int .i64 u.depth, .int .i64 u.org, .slice U u.caps.length q]) rfl rfl E S rfl rfl rfl ag34 rfl (fun _ s => objAll s 1 rfl) ?_; clear E a; intro a E
  refine RunT.end ?_
  refine RunT.one ?_
  refine Run.load1 rfl rfl E S rfl rfl rfl one22 (fun _ s => s.objCell 2 0 rfl rfl) ?_; clear E a; intro a E
  refine RunT.end ?_
  refine RunT.one ?_
  refine Run.load1 rfl rfl E S rfl rfl rfl one3 (fun _ s => s.objCell 2 1 rfl rfl) ?_; clear E a; intro a E
  refine RunT.end ?_
  refine RunT.alt ?_ ?_
  · skip
    refine Run.call (args := [.agg #[.int .i64 u.kind, .int .i64 u.node, .int .i64 u.phase, .int .i64 u.pos, .int .i64 u.start, .int .i64 u.depth, .int .i64 u.org, .slice U u.caps.length q], .slice A0 b.length c0, .int .i64 (k : Int)]) rfl rfl E rfl rfl Try.func66 nm66 rfl rfl (read_ok (t := t) (H1.chg S.chg hAw) hb8 hl (HU.chg S.chg hUw) p1 (Int.natCast_nonneg _) (by omega) (base_len p1) h (by rw [p2]; exact hR)) ?_; rintro e_ w ⟨D3, e4, rfl, S_⟩; refine ⟨_, rfl, (fun _ => S_.belT), ?_⟩; clear E a; intro a E
    replace S : St _ _ _ [_, .obj _ _ [_, _, _, _, _, _, _, _], .obj _ _ [_, _, _, _, _, _, _, _], .obj _ _ [_, _, _], .obj _ _ [_, _, _, _, _, _, _, _, _, _, _, _, _], _, _, _] := St.call (A := []) (R := [_, _, _, _, _, _, _]) S S_; clear S_
    refine RunT.end ?_
    refine RunT.one ?_
    refine Run.move rfl E rfl rfl rfl ?_; clear E a; intro a E
    refine RunT.end ?_
    refine RunT.one ?_
    refine Run.extract rfl E rfl rfl rfl rfl ?_; clear E a; intro a E
    refine RunT.end ?_
    refine RunT.one ?_
    refine Run.extract rfl E rfl rfl rfl rfl ?_; clear E a; intro a E
    refine RunT.end ?_
    refine RunT.one ?_
    refine Run.extract rfl E rfl rfl rfl rfl ?_; clear E a; intro a E
    refine RunT.end ?_
    refine RunT.one ?_
    refine Run.alloc rfl rfl E S rfl rfl z34 rfl ?_; clear E a S; intro b5 w a E S B_; clear B_
    refine RunT.end ?_
    refine RunT.one ?_
    refine Run.store (news := [.int .i64 t.kind, .int .i64 t.node, .int .i64 t.phase, .int .i64 t.pos, .int .i64 t.start, .int .i64 t.depth, .int .i64 t.org, .slice D3 t.caps.length e4]) (cs' := [_, _, _, _, _, _, _, _]) (hp' := [_, _, _, _, _, _, _, _, _]) 0 rfl E S rfl rfl rfl rfl rfl sz34 rfl rfl rfl rfl ?_; clear S; intro w S
    refine RunT.end ?_
    refine RunT.one ?_
    refine Run.assign rfl E rfl rfl rfl ?_; clear E a; intro a E
    refine RunT.end ?_
    refine RunT.one ?_
    refine Run.assign rfl E rfl rfl rfl ?_; clear E a; intro a E
    refine RunT.end ?_
    refine RunT.done ?_
    refine then_n ?_
    refine wp_seq ?_
    refine region_plain (n := 9) [(0, .p), (1, .p), (2, .p), (3, .l), (4, .p), (5, .p), (6, .p), (7, .p), (8, .l)] rfl rfl ?_
    refine Run.move rfl E rfl rfl rfl ?_; clear E a; intro a E
    refine Run.nilCheck rfl E rfl rfl rfl ?_; clear E a; intro a E
    refine Run.fieldAddr rfl E rfl rfl rfl fo120_1 (rfl) ?_; clear E a; intro a E
    refine Run.load1 rfl rfl E S rfl rfl rfl one3 (fun _ s => s.objCell 4 1 rfl rfl) ?_; clear E a; intro a E
    refine Run.move rfl E rfl rfl rfl ?_; clear E a; intro a E
    refine Run.add rfl E rfl rfl rfl rfl (q := ((k + n : Nat) : Int)) (numR_wrapat (by omega)) ?_; clear E a; intro a E
    refine Run.nilCheck rfl E rfl rfl rfl ?_; clear E a; intro a E
    refine Run.fieldAddr rfl E rfl rfl rfl fo120_1 (rfl) ?_; clear E a; intro a E
    refine Run.store (news := [.int .i64 ((k + n : Nat) : Int)]) (cs' := [_, _, _]) (hp' := [_, _, _, _, _, _, _, _, _]) 4 rfl E S rfl rfl rfl rfl rfl sz3 rfl rfl rfl rfl ?_; clear S; intro w S
    refine Run.nil ?_
    refine then_n ?_
    refine wp_seq ?_
    refine region_plain (n := 12) [(0, .p), (1, .p), (2, .p), (3, .p), (4, .p), (5, .l), (6, .l), (7, .p), (8, .p), (9, .p), (10, .p), (11, .l)] rfl rfl ?_
    refine Run.move rfl E rfl rfl rfl ?_; clear E a; intro a E
    refine Run.move rfl E rfl rfl rfl ?_; clear E a; intro a E
    refine Run.nei rfl E rfl rfl rfl rfl (b := false) (by decide) ?_; clear E a; intro a E
    refine Run.move rfl E rfl rfl rfl ?_; clear E a; intro a E
    refine Run.move rfl E rfl rfl rfl ?_; clear E a; intro a E
    refine Run.loadN (cs := [.int .i64 t.kind, .int .i64 t.node, .int .i64 t.phase, .int .i64 t.pos, .int .i64 t.start, .int .i64 t.depth, .int .i64 t.org, .slice D3 t.caps.length e4]) rfl rfl E S rfl rfl rfl ag34 rfl (fun _ s => objAll s 0 rfl) ?_; clear E a; intro a E
    replace S : St _ _ _ [.obj _ _ [_, _, _, _, _, _, _, _, _, _, _, _, _], _, _, _, .obj _ _ [_, _, _, _, _, _, _, _], _, .obj _ _ [_, _, _, _, _, _, _, _], .obj _ _ [_, _, _, _, _, _, _, _], .obj _ _ [_, _, _]] := S.sel [5, 6, 7, 8, 0, 1, 2, 3, 4] _ rfl rfl
    refine Run.call (args := [.pointer (some ⟨g, 0, none⟩), .agg #[.int .i64 t.kind, .int .i64 t.node, .int .i64 t.phase, .int .i64 t.pos, .int .i64 t.start, .int .i64 t.depth, .int .i64 t.org, .slice D3 t.caps.length e4]]) rfl rfl E rfl rfl Try.func75 nm75 rfl rfl (tadd_walk (f := e4) (G := G) (ev := ev) (lim := lim) (ts := ts) (s := t) (St.ownL (A := [.obj g 128 [.int .i64 (G : Int), .int .i64 (ev : Int), .int .i64 lim, .slice A ((tbytes G ev ts).length) c, .slice B ((tstarts G ev ts).length) d, .int .i64 ((lastS ts).kind), .int .i64 ((lastS ts).node), .int .i64 ((lastS ts).phase), .int .i64 ((lastS ts).pos), .int .i64 ((lastS ts).start), .int .i64 ((lastS ts).depth), .int .i64 ((lastS ts).org), .slice C ((lastS ts).caps.length) e], .row (.slice A ((tbytes G ev ts).length) c) 5 1 ((tbytes G ev ts).length) (u8s (tbytes G ev ts)), .row (.slice B ((tstarts G ev ts).length) d) 3 1 ((tstarts G ev ts).length) (ints (tstarts G ev ts)), .row (.slice C ((lastS ts).caps.length) e) 3 1 ((lastS ts).caps.length) (ints (lastS ts).caps)]) (R := [_, _, _, _, _]) S) hok hlim hl1 (S.rd 5 rfl) (St.apartRow (A := [.obj g 128 [.int .i64 (G : Int), .int .i64 (ev : Int), .int .i64 lim, .slice A ((tbytes G ev ts).length) c, .slice B ((tstarts G ev ts).length) d, .int .i64 ((lastS ts).kind), .int .i64 ((lastS ts).node), .int .i64 ((lastS ts).phase), .int .i64 ((lastS ts).pos), .int .i64 ((lastS ts).start), .int .i64 ((lastS ts).depth), .int .i64 ((lastS ts).org), .slice C ((lastS ts).caps.length) e], .row (.slice A ((tbytes G ev ts).length) c) 5 1 ((tbytes G ev ts).length) (u8s (tbytes G ev ts)), .row (.slice B ((tstarts G ev ts).length) d) 3 1 ((tstarts G ev ts).length) (ints (tstarts G ev ts)), .row (.slice C ((lastS ts).caps.length) e) 3 1 ((lastS ts).caps.length) (ints (lastS ts).caps)]) (R := [_, _, _, _, _]) S 1 rfl) (by omega)) ?_; rintro e_ w ⟨rfl, Ax6, cx7, Bx8, dx9, Cx10, ex11, S_⟩; refine ⟨_, rfl, (fun h => by cases h), ?_⟩; clear E a; intro a E
    replace S : St _ _ _ [.obj _ _ [_, _, _, _, _, _, _, _, _, _, _, _, _], _, _, _, .obj _ _ [_, _, _, _, _, _, _, _], _, .obj _ _ [_, _, _, _, _, _, _, _], .obj _ _ [_, _, _, _, _, _, _, _], .obj _ _ [_, _, _]] := St.call (A := [.obj g 128 [.int .i64 (G : Int), .int .i64 (ev : Int), .int .i64 lim, .slice A ((tbytes G ev ts).length) c, .slice B ((tstarts G ev ts).length) d, .int .i64 ((lastS ts).kind), .int .i64 ((lastS ts).node), .int .i64 ((lastS ts).phase), .int .i64 ((lastS ts).pos), .int .i64 ((lastS ts).start), .int .i64 ((lastS ts).depth), .int .i64 ((lastS ts).org), .slice C ((lastS ts).caps.length) e], .row (.slice A ((tbytes G ev ts).length) c) 5 1 ((tbytes G ev ts).length) (u8s (tbytes G ev ts)), .row (.slice B ((tstarts G ev ts).length) d) 3 1 ((tstarts G ev ts).length) (ints (tstarts G ev ts)), .row (.slice C ((lastS ts).caps.length) e) 3 1 ((lastS ts).caps.length) (ints (lastS ts).caps)]) (R := [_, _, _, _, _]) S S_; clear S_
    refine Run.nei rfl E rfl rfl rfl rfl rfl ?_; clear E a; intro a E
    refine Run.pickF rfl E rfl rfl rfl rfl ?_; clear E a; intro a E
    refine Run.nilCheck rfl E rfl rfl rfl ?_; clear E a; intro a E
    refine Run.fieldAddr rfl E rfl rfl rfl fo120_2 (rfl) ?_; clear E a; intro a E
    refine Run.store (news := [.bool (decide (addE G ev lim ts t ≠ 0))]) (cs' := [_, _, _]) (hp' := [_, _, _, _, _, _, _, _, _]) 8 rfl E S rfl rfl rfl rfl rfl sz4 rfl rfl rfl rfl ?_; clear S; intro w S
    refine Run.nil ?_
    refine then_n ?_
    refine wp_seq ?_
    refine region_plain (n := 2) [(0, .l), (1, .l)] rfl rfl ?_
    refine Run.loadN (cs := [.int .i64 t.kind, .int .i64 t.node, .int .i64 t.phase, .int .i64 t.pos, .int .i64 t.start, .int .i64 t.depth, .int .i64 t.org, .slice D3 t.caps.length e4]) rfl rfl E S rfl rfl rfl ag34 rfl (fun _ s => objAll s 4 rfl) ?_; clear E a; intro a E
    refine Run.store (news := [.int .i64 t.kind, .int .i64 t.node, .int .i64 t.phase, .int .i64 t.pos, .int .i64 t.start, .int .i64 t.depth, .int .i64 t.org, .slice D3 t.caps.length e4]) (cs' := [_, _, _, _, _, _, _, _]) (hp' := [_, _, _, _, _, _, _, _, _]) 6 rfl E S rfl rfl rfl rfl rfl sz34 rfl rfl rfl rfl ?_; clear S; intro w S
    refine Run.nil ?_
    refine then_n ?_
    refine wp_ret ?_
    refine retN E (vs := [.agg #[.int .i64 t.kind, .int .i64 t.node, .int .i64 t.phase, .int .i64 t.pos, .int .i64 t.start, .int .i64 t.depth, .int .i64 t.org, .slice D3 t.caps.length e4]]) Try.results83 (.cell (E.slot _ _ rfl) (run_loadVarAgg ag34 rfl (objAll S 6 rfl)) .nil) rfl ⟨D3, e4, Ax6, cx7, Bx8, dx9, Cx10, ex11, rfl, ?_⟩
    have S : St _ _ _ [_, _, _, _, _, _, _, _, _] := S.sel [4, 6, 7, 8, 0, 1, 2, 3, 5] _ rfl rfl
    have S := S.drop1.drop1.drop1
    exact S
  · skip
    refine RunT.alt ?_ ?_
    · skip
      refine Run.alloc rfl rfl E S rfl rfl z34 rfl ?_; clear E a S; intro b12 w a E S B_; clear B_
      refine RunT.end ?_
      refine RunT.one ?_
      refine Run.call (args := [.agg #[.int .i64 u.kind, .int .i64 u.node, .int .i64 u.phase, .int .i64 u.pos, .int .i64 u.start, .int .i64 u.depth, .int .i64 u.org, .slice U u.caps.length q], .slice A0 b.length c0, .int .i64 (k : Int)]) rfl rfl E rfl rfl Try.func66 nm66 rfl rfl (read_ok (t := t) (H1.chg S.chg hAw) hb8 hl (HU.chg S.chg hUw) p1 (Int.natCast_nonneg _) (by omega) (base_len p1) h (by rw [p2]; exact hR)) ?_; rintro e_ w ⟨D13, e14, rfl, S_⟩; refine ⟨_, rfl, (fun _ => S_.belT), ?_⟩; clear E a; intro a E
      replace S : St _ _ _ [_, .obj _ _ [_, _, _, _, _, _, _, _], .obj _ _ [_, _, _, _, _, _, _, _], .obj _ _ [_, _, _, _, _, _, _, _], .obj _ _ [_, _, _], .obj _ _ [_, _, _, _, _, _, _, _, _, _, _, _, _], _, _, _] := St.call (A := []) (R := [_, _, _, _, _, _, _, _]) S S_; clear S_
      refine RunT.end ?_
      refine RunT.one ?_
      refine Run.move rfl E rfl rfl rfl ?_; clear E a; intro a E
      refine RunT.end ?_
      refine RunT.one ?_
      refine Run.extract rfl E rfl rfl rfl rfl ?_; clear E a; intro a E
      refine RunT.end ?_
      refine RunT.one ?_
      refine Run.extract rfl E rfl rfl rfl rfl ?_; clear E a; intro a E
      refine RunT.end ?_
      refine RunT.one ?_
      refine Run.extract rfl E rfl rfl rfl rfl ?_; clear E a; intro a E
      refine RunT.end ?_
      refine RunT.one ?_
      refine Run.store (news := [.int .i64 t.kind, .int .i64 t.node, .int .i64 t.phase, .int .i64 t.pos, .int .i64 t.start, .int .i64 t.depth, .int .i64 t.org, .slice D13 t.caps.length e14]) (cs' := [_, _, _, _, _, _, _, _]) (hp' := [_, _, _, _, _, _, _, _, _]) 1 rfl E S rfl rfl rfl rfl rfl sz34 rfl rfl rfl rfl ?_; clear S; intro w S
      refine RunT.end ?_
      refine RunT.one ?_
      refine Run.assign rfl E rfl rfl rfl ?_; clear E a; intro a E
      refine RunT.end ?_
      refine RunT.one ?_
      refine Run.assign rfl E rfl rfl rfl ?_; clear E a; intro a E
      refine RunT.end ?_
      refine RunT.done ?_
      refine then_n ?_
      refine wp_seq ?_
      refine region_plain (n := 9) [(0, .p), (1, .p), (2, .p), (3, .l), (4, .p), (5, .p), (6, .p), (7, .p), (8, .l)] rfl rfl ?_
      refine Run.move rfl E rfl rfl rfl ?_; clear E a; intro a E
      refine Run.nilCheck rfl E rfl rfl rfl ?_; clear E a; intro a E
      refine Run.fieldAddr rfl E rfl rfl rfl fo120_1 (rfl) ?_; clear E a; intro a E
      refine Run.load1 rfl rfl E S rfl rfl rfl one3 (fun _ s => s.objCell 4 1 rfl rfl) ?_; clear E a; intro a E
      refine Run.move rfl E rfl rfl rfl ?_; clear E a; intro a E
      refine Run.add rfl E rfl rfl rfl rfl (q := ((k + n : Nat) : Int)) (numR_wrapat (by omega)) ?_; clear E a; intro a E
      refine Run.nilCheck rfl E rfl rfl rfl ?_; clear E a; intro a E
      refine Run.fieldAddr rfl E rfl rfl rfl fo120_1 (rfl) ?_; clear E a; intro a E
      refine Run.store (news := [.int .i64 ((k + n : Nat) : Int)]) (cs' := [_, _, _]) (hp' := [_, _, _, _, _, _, _, _, _]) 4 rfl E S rfl rfl rfl rfl rfl sz3 rfl rfl rfl rfl ?_; clear S; intro w S
      refine Run.nil ?_
      refine then_n ?_
      refine wp_seq ?_
      refine region_plain (n := 12) [(0, .p), (1, .p), (2, .p), (3, .p), (4, .p), (5, .l), (6, .l), (7, .p), (8, .p), (9, .p), (10, .p), (11, .l)] rfl rfl ?_
      refine Run.move rfl E rfl rfl rfl ?_; clear E a; intro a E
      refine Run.move rfl E rfl rfl rfl ?_; clear E a; intro a E
      refine Run.nei rfl E rfl rfl rfl rfl (b := false) (by decide) ?_; clear E a; intro a E
      refine Run.move rfl E rfl rfl rfl ?_; clear E a; intro a E
      refine Run.move rfl E rfl rfl rfl ?_; clear E a; intro a E
      refine Run.loadN (cs := [.int .i64 t.kind, .int .i64 t.node, .int .i64 t.phase, .int .i64 t.pos, .int .i64 t.start, .int .i64 t.depth, .int .i64 t.org, .slice D13 t.caps.length e14]) rfl rfl E S rfl rfl rfl ag34 rfl (fun _ s => objAll s 1 rfl) ?_; clear E a; intro a E
      replace S : St _ _ _ [.obj _ _ [_, _, _, _, _, _, _, _, _, _, _, _, _], _, _, _, _, .obj _ _ [_, _, _, _, _, _, _, _], .obj _ _ [_, _, _, _, _, _, _, _], .obj _ _ [_, _, _, _, _, _, _, _], .obj _ _ [_, _, _]] := S.sel [5, 6, 7, 8, 0, 1, 2, 3, 4] _ rfl rfl
      refine Run.call (args := [.pointer (some ⟨g, 0, none⟩), .agg #[.int .i64 t.kind, .int .i64 t.node, .int .i64 t.phase, .int .i64 t.pos, .int .i64 t.start, .int .i64 t.depth, .int .i64 t.org, .slice D13 t.caps.length e14]]) rfl rfl E rfl rfl Try.func75 nm75 rfl rfl (tadd_walk (f := e14) (G := G) (ev := ev) (lim := lim) (ts := ts) (s := t) (St.ownL (A := [.obj g 128 [.int .i64 (G : Int), .int .i64 (ev : Int), .int .i64 lim, .slice A ((tbytes G ev ts).length) c, .slice B ((tstarts G ev ts).length) d, .int .i64 ((lastS ts).kind), .int .i64 ((lastS ts).node), .int .i64 ((lastS ts).phase), .int .i64 ((lastS ts).pos), .int .i64 ((lastS ts).start), .int .i64 ((lastS ts).depth), .int .i64 ((lastS ts).org), .slice C ((lastS ts).caps.length) e], .row (.slice A ((tbytes G ev ts).length) c) 5 1 ((tbytes G ev ts).length) (u8s (tbytes G ev ts)), .row (.slice B ((tstarts G ev ts).length) d) 3 1 ((tstarts G ev ts).length) (ints (tstarts G ev ts)), .row (.slice C ((lastS ts).caps.length) e) 3 1 ((lastS ts).caps.length) (ints (lastS ts).caps)]) (R := [_, _, _, _, _]) S) hok hlim hl1 (S.rd 4 rfl) (St.apartRow (A := [.obj g 128 [.int .i64 (G : Int), .int .i64 (ev : Int), .int .i64 lim, .slice A ((tbytes G ev ts).length) c, .slice B ((tstarts G ev ts).length) d, .int .i64 ((lastS ts).kind), .int .i64 ((lastS ts).node), .int .i64 ((lastS ts).phase), .int .i64 ((lastS ts).pos), .int .i64 ((lastS ts).start), .int .i64 ((lastS ts).depth), .int .i64 ((lastS ts).org), .slice C ((lastS ts).caps.length) e], .row (.slice A ((tbytes G ev ts).length) c) 5 1 ((tbytes G ev ts).length) (u8s (tbytes G ev ts)), .row (.slice B ((tstarts G ev ts).length) d) 3 1 ((tstarts G ev ts).length) (ints (tstarts G ev ts)), .row (.slice C ((lastS ts).caps.length) e) 3 1 ((lastS ts).caps.length) (ints (lastS ts).caps)]) (R := [_, _, _, _, _]) S 0 rfl) (by omega)) ?_; rintro e_ w ⟨rfl, Ax15, cx16, Bx17, dx18, Cx19, ex20, S_⟩; refine ⟨_, rfl, (fun h => by cases h), ?_⟩; clear E a; intro a E
      replace S : St _ _ _ [.obj _ _ [_, _, _, _, _, _, _, _, _, _, _, _, _], _, _, _, _, .obj _ _ [_, _, _, _, _, _, _, _], .obj _ _ [_, _, _, _, _, _, _, _], .obj _ _ [_, _, _, _, _, _, _, _], .obj _ _ [_, _, _]] := St.call (A := [.obj g 128 [.int .i64 (G : Int), .int .i64 (ev : Int), .int .i64 lim, .slice A ((tbytes G ev ts).length) c, .slice B ((tstarts G ev ts).length) d, .int .i64 ((lastS ts).kind), .int .i64 ((lastS ts).node), .int .i64 ((lastS ts).phase), .int .i64 ((lastS ts).pos), .int .i64 ((lastS ts).start), .int .i64 ((lastS ts).depth), .int .i64 ((lastS ts).org), .slice C ((lastS ts).caps.length) e], .row (.slice A ((tbytes G ev ts).length) c) 5 1 ((tbytes G ev ts).length) (u8s (tbytes G ev ts)), .row (.slice B ((tstarts G ev ts).length) d) 3 1 ((tstarts G ev ts).length) (ints (tstarts G ev ts)), .row (.slice C ((lastS ts).caps.length) e) 3 1 ((lastS ts).caps.length) (ints (lastS ts).caps)]) (R := [_, _, _, _, _]) S S_; clear S_
      refine Run.nei rfl E rfl rfl rfl rfl rfl ?_; clear E a; intro a E
      refine Run.pickF rfl E rfl rfl rfl rfl ?_; clear E a; intro a E
      refine Run.nilCheck rfl E rfl rfl rfl ?_; clear E a; intro a E
      refine Run.fieldAddr rfl E rfl rfl rfl fo120_2 (rfl) ?_; clear E a; intro a E
      refine Run.store (news := [.bool (decide (addE G ev lim ts t ≠ 0))]) (cs' := [_, _, _]) (hp' := [_, _, _, _, _, _, _, _, _]) 8 rfl E S rfl rfl rfl rfl rfl sz4 rfl rfl rfl rfl ?_; clear S; intro w S
      refine Run.nil ?_
      refine then_n ?_
      refine wp_seq ?_
      refine region_plain (n := 2) [(0, .l), (1, .l)] rfl rfl ?_
      refine Run.loadN (cs := [.int .i64 t.kind, .int .i64 t.node, .int .i64 t.phase, .int .i64 t.pos, .int .i64 t.start, .int .i64 t.depth, .int .i64 t.org, .slice D13 t.caps.length e14]) rfl rfl E S rfl rfl rfl ag34 rfl (fun _ s => objAll s 5 rfl) ?_; clear E a; intro a E
      refine Run.store (news := [.int .i64 t.kind, .int .i64 t.node, .int .i64 t.phase, .int .i64 t.pos, .int .i64 t.start, .int .i64 t.depth, .int .i64 t.org, .slice D13 t.caps.length e14]) (cs' := [_, _, _, _, _, _, _, _]) (hp' := [_, _, _, _, _, _, _, _, _]) 6 rfl E S rfl rfl rfl rfl rfl sz34 rfl rfl rfl rfl ?_; clear S; intro w S
      refine Run.nil ?_
      refine then_n ?_
      refine wp_ret ?_
      refine retN E (vs := [.agg #[.int .i64 t.kind, .int .i64 t.node, .int .i64 t.phase, .int .i64 t.pos, .int .i64 t.start, .int .i64 t.depth, .int .i64 t.org, .slice D13 t.caps.length e14]]) Try.results83 (.cell (E.slot _ _ rfl) (run_loadVarAgg ag34 rfl (objAll S 6 rfl)) .nil) rfl ⟨D13, e14, Ax15, cx16, Bx17, dx18, Cx19, ex20, rfl, ?_⟩
      have S : St _ _ _ [_, _, _, _, _, _, _, _, _] := S.sel [5, 6, 7, 8, 0, 1, 2, 3, 4] _ rfl rfl
      have S := S.drop1.drop1.drop1
      exact S
    · skip
      exact RunT.none

end
end Go.Proofs.Ytlcglefbhlhcpaa.K
