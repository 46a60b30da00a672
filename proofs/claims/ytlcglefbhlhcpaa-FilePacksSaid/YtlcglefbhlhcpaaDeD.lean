/- The document's record of a state. -/
import Derived.Test.YtlcglefbhlhcpaaKg
import Derived.Test.YtlcglefbhlhcpaaDeC
namespace Go.Proofs.Ytlcglefbhlhcpaa.K
open Go.RowKit
set_option linter.unusedVariables false
set_option maxRecDepth 100000
set_option maxHeartbeats 400000

theorem six_get {s : Sta} {i : Nat} {v : Value} (h : i < s.nums.tail.length) : (ints s.nums ++ [v])[i + 1]? = some (.int .i64 (s.nums.tail[i]'h)) := by
  have h1 : i + 1 < s.nums.length := by simp at h; omega
  rw [List.getElem?_append_left (by rw [ints_len]; exact h1)]
  exact ints_get' (by rw [List.getElem?_eq_getElem h1, List.getElem_tail])
section
variable {w0 : World} {A B : Option Addr} {c d : Nat} {s t : Sta}

set_option maxHeartbeats 2000000 in
theorem rec18_walk (H1 : Rd w0 A s.caps.length 1 (ints s.caps)) (H2 : Rd w0 B t.caps.length 1 (ints t.caps)) (hss : ∀ x ∈ s.nums, small x) (hsc : ∀ x ∈ s.caps, small x) (hst : ∀ x ∈ t.nums, small x) (htc : ∀ x ∈ t.caps, small x) (hle : s.caps.length = t.caps.length) (ht200 : t.caps.length ≤ 200) (hk1 : 1 ≤ t.kind) (hk2 : t.kind ≤ 14) : Calls Try.prog 64 [.agg #[.int .i64 s.kind, .int .i64 s.node, .int .i64 s.phase, .int .i64 s.pos, .int .i64 s.start, .int .i64 s.depth, .int .i64 s.org, .slice A s.caps.length c], .agg #[.int .i64 t.kind, .int .i64 t.node, .int .i64 t.phase, .int .i64 t.pos, .int .i64 t.start, .int .i64 t.depth, .int .i64 t.org, .slice B t.caps.length d]].toArray w0 (fun r w' => ∃ C e, r = .returned (.slice C (rec18 s t).length e) ∧ St [] w0 w' [.row (.slice C (rec18 s t).length e) 5 1 (rec18 s t).length (u8s (rec18 s t))]) := by
  have S := St.nil [] w0
  have htb : t.caps.length ≤ 65536 := by omega
  refine fn_start Try.func64 rfl 106 rfl rfl [(0, _), (1, _)] ⟨rfl, rfl, trivial⟩ ?_; intro a E
  refine wp_seq ?_
  refine region_plain (n := 3) [(0, .e), (1, .e), (2, .p)] rfl rfl ?_
  refine Run.box (cs := [.int .i64 s.kind, .int .i64 s.node, .int .i64 s.phase, .int .i64 s.pos, .int .i64 s.start, .int .i64 s.depth, .int .i64 s.org, .slice A s.caps.length c]) rfl rfl E S rfl rfl rfl rfl ?_; clear E a S; intro b1 w a E S B_; clear B_
  refine Run.box (cs := [.int .i64 t.kind, .int .i64 t.node, .int .i64 t.phase, .int .i64 t.pos, .int .i64 t.start, .int .i64 t.depth, .int .i64 t.org, .slice B t.caps.length d]) rfl rfl E S rfl rfl rfl rfl ?_; clear E a S; intro b2 w a E S B_; clear B_
  refine Run.assign rfl E rfl rfl rfl ?_; clear E a; intro a E
  refine Run.nil ?_
  refine then_n ?_
  refine wp_seq ?_
  refine region_plain (n := 1) [(0, .p)] rfl rfl ?_
  refine Run.assign rfl E rfl rfl rfl ?_; clear E a; intro a E
  refine Run.nil ?_
  refine then_n ?_
  refine wp_seq ?_
  refine region_plain (n := 1) [(0, .p)] rfl rfl ?_
  refine Run.assign rfl E rfl rfl rfl ?_; clear E a; intro a E
  refine Run.nil ?_
  refine then_n ?_
  refine wp_seq ?_
  refine region_plain (n := 1) [(0, .p)] rfl rfl ?_
  refine Run.assign rfl E rfl rfl rfl ?_; clear E a; intro a E
  refine Run.nil ?_
  refine then_n ?_
  refine wp_seq ?_
  refine wp_seq ?_
  refine region_plain (n := 1) [(0, .p)] rfl rfl ?_
  refine Run.assign rfl E rfl rfl rfl ?_; clear E a; intro a E
  refine Run.nil ?_
  refine then_n ?_
  refine wp_block ?_
  have S : St _ _ _ [_, _] := S.sel [1, 0] _ rfl rfl
  replace S : St _ _ _ [.obj b1 93 (ints s.nums ++ [.slice A s.caps.length c]), .obj b2 93 (ints t.nums ++ [.slice B t.caps.length d])] := S
  replace S := S.addNil 5 1
  refine wp_loop_ghost (fun n_ a w => ∃ i : Nat, ∃ o : List Nat, ∃ mk : Nat, ∃ C : Option Addr, ∃ e : Nat, 6 - i = n_ ∧ Env 106 [(2, .pointer (some ⟨b1, 0, none⟩)), (3, .pointer (some ⟨b2, 0, none⟩)), (4, .slice none 0 0), (5, .slice C o.length e), (6, .int .u64 (mk : Int)), (7, .int .u64 ((2 ^ i : Nat) : Int)), (8, .int .i64 ((i + 1 : Nat) : Int))] a ∧ St _ _ w [.row (.slice C o.length e) 5 1 o.length (u8s o), .obj b1 93 (ints s.nums ++ [.slice A s.caps.length c]), .obj b2 93 (ints t.nums ++ [.slice B t.caps.length d])] ∧ (i ≤ 6) ∧ (numS s.nums.tail t.nums.tail i = (o, mk)) ∧ (o.length ≤ 10 * i)) _ ⟨0, [], 0, none, 0, rfl, E.keeps [(2, _), (3, _), (4, _), (5, _), (6, _), (7, _), (8, _)] ⟨rfl, rfl, rfl, rfl, rfl, rfl, rfl, trivial⟩, S, Nat.zero_le _, rfl, Nat.zero_le _⟩ ?_
  clear E a S
  rintro n_ a w ⟨i, o, mk, C, e, rfl, E, S, hi, hnum, hol⟩
  refine wp_seq ?_
  refine wp_seq ?_
  refine region_plain (n := 2) [(0, .p), (1, .p)] rfl rfl ?_
  refine Run.move rfl E rfl rfl rfl ?_; clear E a; intro a E
  by_cases hlt : i < 6
  · skip
    have hsl : i < s.nums.tail.length := hlt
    have htl : i < t.nums.tail.length := hlt
    have hmk : mk < 2 ^ i := by have := numS_lt s.nums.tail t.nums.tail i; rw [hnum] at this; exact this
    have hp6 : 2 ^ i ≤ 2 ^ 6 := Nat.pow_le_pow_right (by decide) hi
    have hz := zig_small (hst _ (List.mem_of_mem_tail (List.getElem_mem htl))) (hss _ (List.mem_of_mem_tail (List.getElem_mem hsl)))
    refine Run.lss rfl E rfl rfl rfl rfl (decide_eq_true (by omega)) ?_; clear E a; intro a E
    refine Run.nil ?_
    refine then_n ?_
    refine cond_T E rfl ?_
    refine wp_skip ?_
    refine then_n ?_
    refine wp_seq ?_
    refine wp_block ?_
    refine wp_seq ?_
    refine wp_seq ?_
    refine region_drawS (n := 9) [(0, .p), (1, .p), (2, .p), (4, .p), (5, .p), (6, .p), (3, .t), (7, .t), (8, .p)] [0, 0, 3, 7, 0, 0, 48, 112, 255] S mixed rfl rfl (by kernel_rfl) (fun _ _ _ _ _ h => h) ?_; clear S; intro w S B_; clear B_
    refine Run.move rfl E rfl rfl rfl ?_; clear E a; intro a E
    refine Run.fieldAddr rfl E rfl rfl rfl fo93_0 (rfl) ?_; clear E a; intro a E
    refine Run.indexArr rfl E rfl rfl rfl rfl Try.underlying91 sz3 (by omega) (q := ⟨b1, i + 1, none⟩) (ix_at (m' := i + 1) (o := i + 1) rfl (Nat.mul_one _)) ?_; clear E a; intro a E
    refine Run.move rfl E rfl rfl rfl ?_; clear E a; intro a E
    refine Run.fieldAddr rfl E rfl rfl rfl fo93_0 (rfl) ?_; clear E a; intro a E
    refine Run.indexArr rfl E rfl rfl rfl rfl Try.underlying91 sz3 (by omega) (q := ⟨b2, i + 1, none⟩) (ix_at (m' := i + 1) (o := i + 1) rfl (Nat.mul_one _)) ?_; clear E a; intro a E
    refine Run.load1 rfl rfl E S rfl rfl rfl one3 (fun _ s_ => s_.objCell 1 (i + 1) rfl (six_get hsl)) ?_; clear E a; intro a E
    refine Run.load1 rfl rfl E S rfl rfl rfl one3 (fun _ s_ => s_.objCell 2 (i + 1) rfl (six_get htl)) ?_; clear E a; intro a E
    by_cases he : (s.nums.tail[i]'hsl) ≠ (t.nums.tail[i]'htl)
    · skip
      refine Run.nei rfl E rfl rfl rfl rfl (decide_eq_true (by omega)) ?_; clear E a; intro a E
      refine Run.nil ?_
      refine then_n ?_
      refine cond_T E rfl ?_
      refine wp_seq ?_
      refine region_plain (n := 4) [(0, .p), (1, .p), (2, .p), (3, .p)] rfl rfl ?_
      refine Run.move rfl E rfl rfl rfl ?_; clear E a; intro a E
      refine Run.move rfl E rfl rfl rfl ?_; clear E a; intro a E
      refine Run.add rfl E rfl rfl rfl rfl (q := ((mk + 2 ^ i : Nat) : Int)) ((u64_ok (by omega)).trans (by omega)) ?_; clear E a; intro a E
      refine Run.assign rfl E rfl rfl rfl ?_; clear E a; intro a E
      refine Run.nil ?_
      refine then_n ?_
      refine region_drawS (n := 13) [(0, .p), (1, .p), (2, .p), (3, .p), (5, .p), (6, .p), (7, .p), (4, .t), (8, .t), (9, .p), (10, .e), (11, .l), (12, .p)] [0, 0, 0, 6, 14, 0, 0, 96, 224, 510, 1022, 2047, 4095] S mixed rfl rfl (by kernel_rfl) (fun _ _ _ _ _ h => h) ?_; clear S; intro w S B_; clear B_
      refine Run.move rfl E rfl rfl rfl ?_; clear E a; intro a E
      refine Run.move rfl E rfl rfl rfl ?_; clear E a; intro a E
      refine Run.fieldAddr rfl E rfl rfl rfl fo93_0 (rfl) ?_; clear E a; intro a E
      refine Run.indexArr rfl E rfl rfl rfl rfl Try.underlying91 sz3 (by omega) (q := ⟨b2, i + 1, none⟩) (ix_at (m' := i + 1) (o := i + 1) rfl (Nat.mul_one _)) ?_; clear E a; intro a E
      refine Run.move rfl E rfl rfl rfl ?_; clear E a; intro a E
      refine Run.fieldAddr rfl E rfl rfl rfl fo93_0 (rfl) ?_; clear E a; intro a E
      refine Run.indexArr rfl E rfl rfl rfl rfl Try.underlying91 sz3 (by omega) (q := ⟨b1, i + 1, none⟩) (ix_at (m' := i + 1) (o := i + 1) rfl (Nat.mul_one _)) ?_; clear E a; intro a E
      refine Run.load1 rfl rfl E S rfl rfl rfl one3 (fun _ s_ => s_.objCell 2 (i + 1) rfl (six_get htl)) ?_; clear E a; intro a E
      refine Run.load1 rfl rfl E S rfl rfl rfl one3 (fun _ s_ => s_.objCell 1 (i + 1) rfl (six_get hsl)) ?_; clear E a; intro a E
      refine Run.sub rfl E rfl rfl rfl rfl (i64_ok (by omega)) ?_; clear E a; intro a E
      refine Run.call (args := [.int .i64 ((t.nums.tail[i]'htl) - (s.nums.tail[i]'hsl))]) rfl rfl E rfl rfl Try.func102 nm102 rfl rfl (rsigned_walk (x := (t.nums.tail[i]'htl) - (s.nums.tail[i]'hsl)) hz.1 hz.2) ?_; rintro e_ w ⟨A3, c4, rfl, S_⟩; refine ⟨_, rfl, (fun _ => S_.belT), ?_⟩; clear E a; intro a E
      replace S : St _ _ _ [_, _, _, _] := St.call (A := []) (R := [_, _, _]) S S_; clear S_
      have hv2 := vb_len10 (zig_le hz.1 hz.2)
      have hq2 : (o ++ vb (zig ((t.nums.tail[i]'htl) - (s.nums.tail[i]'hsl)))).length = o.length + (vb (zig ((t.nums.tail[i]'htl) - (s.nums.tail[i]'hsl)))).length := List.length_append
      refine Run.appendRd (news := u8s (vb (zig ((t.nums.tail[i]'htl) - (s.nums.tail[i]'hsl))))) (nm := (o ++ vb (zig ((t.nums.tail[i]'htl) - (s.nums.tail[i]'hsl)))).length) 1 rfl E S rfl rfl rfl rfl rfl Try.underlying22 I5 rfl rfl (S.rd 0 rfl) (u8s_one _) (by simp only [List.length_append]) (by omega) (by omega) ?_; clear E a S; intro A5 c6 w a E S
      rw [u8s_append] at S
      replace S : St _ _ _ [_, _, _, _] := S
      refine Run.assign rfl E rfl rfl rfl ?_; clear E a; intro a E
      refine Run.nil ?_
      refine then_n ?_
      refine region_plain (n := 3) [(0, .p), (1, .p), (2, .p)] rfl rfl ?_
      refine Run.move rfl E rfl rfl rfl ?_; clear E a; intro a E
      refine Run.mul rfl E rfl rfl rfl rfl (q := ((2 ^ i * 2 : Nat) : Int)) ((u64_ok (by omega)).trans (by omega)) ?_; clear E a; intro a E
      refine Run.assign rfl E rfl rfl rfl ?_; clear E a; intro a E
      refine Run.nil ?_
      refine blk_n ?_
      refine then_n ?_
      refine region_plain (n := 3) [(0, .p), (1, .p), (2, .p)] rfl rfl ?_
      refine Run.move rfl E rfl rfl rfl ?_; clear E a; intro a E
      refine Run.add rfl E rfl rfl rfl rfl (i64_ok (by omega)) ?_; clear E a; intro a E
      refine Run.assign rfl E rfl rfl rfl ?_; clear E a; intro a E
      refine Run.nil ?_
      refine then_n ?_
      replace E := E.setv 8 rfl (show Value.int .i64 (((i + 1 : Nat) : Int) + 1) = .int .i64 ((i + 1 + 1 : Nat) : Int) from rfl)
      replace E := E.setv 7 rfl (show Value.int .u64 ((2 ^ i * 2 : Nat) : Int) = .int .u64 ((2 ^ (i + 1) : Nat) : Int) from rfl)
      have S : St _ _ _ [_, _, _, _] := S.sel [0, 1, 2, 3] _ rfl rfl
      have S := S.drop1
      exact ⟨_, (by omega), (i + 1), (o ++ vb (zig ((t.nums.tail[i]'htl) - (s.nums.tail[i]'hsl)))), (mk + 2 ^ i), A5, c6, rfl, E.keeps [(2, _), (3, _), (4, _), (5, _), (6, _), (7, _), (8, _)] ⟨rfl, rfl, rfl, rfl, rfl, rfl, rfl, trivial⟩, S, (by omega), (numS_step hnum (List.getElem?_eq_getElem htl) (List.getElem?_eq_getElem hsl) he), (by simp only [List.length_append]; omega)⟩
    · skip
      refine Run.nei rfl E rfl rfl rfl rfl (decide_eq_false (by omega)) ?_; clear E a; intro a E
      refine Run.nil ?_
      refine then_n ?_
      refine cond_F E rfl ?_
      refine wp_skip ?_
      refine then_n ?_
      refine region_plain (n := 3) [(0, .p), (1, .p), (2, .p)] rfl rfl ?_
      refine Run.move rfl E rfl rfl rfl ?_; clear E a; intro a E
      refine Run.mul rfl E rfl rfl rfl rfl (q := ((2 ^ i * 2 : Nat) : Int)) ((u64_ok (by omega)).trans (by omega)) ?_; clear E a; intro a E
      refine Run.assign rfl E rfl rfl rfl ?_; clear E a; intro a E
      refine Run.nil ?_
      refine blk_n ?_
      refine then_n ?_
      refine region_plain (n := 3) [(0, .p), (1, .p), (2, .p)] rfl rfl ?_
      refine Run.move rfl E rfl rfl rfl ?_; clear E a; intro a E
      refine Run.add rfl E rfl rfl rfl rfl (i64_ok (by omega)) ?_; clear E a; intro a E
      refine Run.assign rfl E rfl rfl rfl ?_; clear E a; intro a E
      refine Run.nil ?_
      refine then_n ?_
      replace E := E.setv 8 rfl (show Value.int .i64 (((i + 1 : Nat) : Int) + 1) = .int .i64 ((i + 1 + 1 : Nat) : Int) from rfl)
      replace E := E.setv 7 rfl (show Value.int .u64 ((2 ^ i * 2 : Nat) : Int) = .int .u64 ((2 ^ (i + 1) : Nat) : Int) from rfl)
      exact ⟨_, (by omega), (i + 1), o, mk, C, e, rfl, E.keeps [(2, _), (3, _), (4, _), (5, _), (6, _), (7, _), (8, _)] ⟨rfl, rfl, rfl, rfl, rfl, rfl, rfl, trivial⟩, S, (by omega), (numS_same hnum (by rw [List.getElem?_eq_getElem htl, List.getElem?_eq_getElem hsl, Decidable.of_not_not he])), (by omega)⟩
  · skip
    obtain rfl : i = 6 := by omega
    have hmk6 : mk < 64 := by have := numS_lt s.nums.tail t.nums.tail 6; rw [hnum] at this; exact this
    refine Run.lss rfl E rfl rfl rfl rfl (decide_eq_false (by omega)) ?_; clear E a; intro a E
    refine Run.nil ?_
    refine then_n ?_
    refine cond_F E rfl ?_
    refine wp_exit ?_
    refine then_x ?_
    refine then_x ?_
    refine blk_x ?_
    refine then_n ?_
    refine wp_seq ?_
    refine region_plain (n := 1) [(0, .p)] rfl rfl ?_
    refine Run.assign rfl E rfl rfl rfl ?_; clear E a; intro a E
    refine Run.nil ?_
    refine then_n ?_
    refine wp_seq ?_
    refine region_plain (n := 1) [(0, .p)] rfl rfl ?_
    refine Run.assign rfl E rfl rfl rfl ?_; clear E a; intro a E
    refine Run.nil ?_
    refine then_n ?_
    refine wp_seq ?_
    refine region_plain (n := 1) [(0, .p)] rfl rfl ?_
    refine Run.assign rfl E rfl rfl rfl ?_; clear E a; intro a E
    refine Run.nil ?_
    refine then_n ?_
    refine wp_seq ?_
    refine wp_seq ?_
    refine region_plain (n := 1) [(0, .p)] rfl rfl ?_
    refine Run.assign rfl E rfl rfl rfl ?_; clear E a; intro a E
    refine Run.nil ?_
    refine then_n ?_
    refine wp_block ?_
    replace S := S.addNil 5 1
    refine wp_loop_ghost (fun n_ a w => ∃ i_ : Nat, ∃ p : List Nat, ∃ cn : Nat, ∃ la : Nat, ∃ D : Option Addr, ∃ e2 : Nat, t.caps.length - i_ = n_ ∧ Env 106 [(2, .pointer (some ⟨b1, 0, none⟩)), (3, .pointer (some ⟨b2, 0, none⟩)), (4, .slice none 0 0), (5, .slice C o.length e), (6, .int .u64 (mk : Int)), (9, .slice D p.length e2), (10, .int .u64 (cn : Int)), (11, .int .u64 ((i_ - la : Nat) : Int)), (12, .int .i64 (i_ : Int))] a ∧ St _ _ w [.row (.slice D p.length e2) 5 1 p.length (u8s p), .row (.slice C o.length e) 5 1 o.length (u8s o), .obj b1 93 (ints s.nums ++ [.slice A s.caps.length c]), .obj b2 93 (ints t.nums ++ [.slice B t.caps.length d])] ∧ (i_ ≤ t.caps.length) ∧ (mvS s.caps t.caps i_ = (p, cn, la))) _ ⟨0, [], 0, 0, none, 0, rfl, E.keeps [(2, _), (3, _), (4, _), (5, _), (6, _), (9, _), (10, _), (11, _), (12, _)] ⟨rfl, rfl, rfl, rfl, rfl, rfl, rfl, rfl, rfl, trivial⟩, S, Nat.zero_le _, rfl⟩ ?_
    clear E a S
    rintro n_ a w ⟨i_, p, cn, la, D, e2, rfl, E, S, hi2, hmv⟩
    refine wp_seq ?_
    refine wp_seq ?_
    refine region_plain (n := 5) [(0, .p), (1, .p), (2, .l), (3, .p), (4, .p)] rfl rfl ?_
    refine Run.move rfl E rfl rfl rfl ?_; clear E a; intro a E
    refine Run.fieldAddr rfl E rfl rfl rfl fo93_1 (rfl) ?_; clear E a; intro a E
    refine Run.load1 rfl rfl E S rfl rfl rfl one32 (fun _ s_ => s_.objCell 3 7 rfl rfl) ?_; clear E a; intro a E
    refine Run.len rfl E rfl rfl rfl Try.underlying32 ?_; clear E a; intro a E
    by_cases hlt2 : i_ < t.caps.length
    · skip
      have hct : i_ < t.caps.length := hlt2
      have hcs : i_ < s.caps.length := by omega
      have hof := mvS_of hmv hsc htc htb hle hi2
      obtain ⟨bA, oA, rfl, hA⟩ := H1.place (by omega)
      obtain ⟨bB, oB, rfl, hB⟩ := H2.place (by omega)
      have hcz := zig_small (htc _ (List.getElem_mem hct)) (hsc _ (List.getElem_mem hcs))
      refine Run.lss rfl E rfl rfl rfl rfl (decide_eq_true (by omega)) ?_; clear E a; intro a E
      refine Run.nil ?_
      refine then_n ?_
      refine cond_T E rfl ?_
      refine wp_skip ?_
      refine then_n ?_
      refine wp_seq ?_
      refine wp_block ?_
      refine wp_seq ?_
      refine wp_seq ?_
      refine region_drawS (n := 11) [(0, .p), (2, .p), (5, .p), (7, .p), (1, .t), (3, .p), (4, .t), (6, .t), (8, .p), (9, .t), (10, .p)] [0, 1, 0, 7, 15, 0, 32, 0, 224, 480, 1023] S mixed rfl rfl (by kernel_rfl) (fun _ _ _ _ _ h => h) ?_; clear S; intro w S B_; clear B_
      refine Run.fieldAddr rfl E rfl rfl rfl fo93_1 (rfl) ?_; clear E a; intro a E
      refine Run.move rfl E rfl rfl rfl ?_; clear E a; intro a E
      refine Run.fieldAddr rfl E rfl rfl rfl fo93_1 (rfl) ?_; clear E a; intro a E
      refine Run.move rfl E rfl rfl rfl ?_; clear E a; intro a E
      refine Run.load1 rfl rfl E S rfl rfl rfl one32 (fun _ s_ => s_.objCell 2 7 rfl rfl) ?_; clear E a; intro a E
      refine Run.indexAddr rfl E rfl rfl rfl rfl Try.underlying32 sz3 (by omega) (ix_at1 (m' := i_) (by omega)) ?_; clear E a; intro a E
      refine Run.load1 rfl rfl E S rfl rfl rfl one3 (fun _ s_ => rdAt1 hA s_ (ints_get' ((List.getElem?_eq_getElem hcs : s.caps[i_]? = some (s.caps[i_]'hcs))))) ?_; clear E a; intro a E
      refine Run.load1 rfl rfl E S rfl rfl rfl one32 (fun _ s_ => s_.objCell 3 7 rfl rfl) ?_; clear E a; intro a E
      refine Run.indexAddr rfl E rfl rfl rfl rfl Try.underlying32 sz3 (by omega) (ix_at1 (m' := i_) (by omega)) ?_; clear E a; intro a E
      refine Run.load1 rfl rfl E S rfl rfl rfl one3 (fun _ s_ => rdAt1 hB s_ (ints_get' ((List.getElem?_eq_getElem hct : t.caps[i_]? = some (t.caps[i_]'hct))))) ?_; clear E a; intro a E
      by_cases hce : (s.caps[i_]'hcs) = (t.caps[i_]'hct)
      · skip
        refine Run.eqi rfl E rfl rfl rfl rfl (decide_eq_true (by omega)) ?_; clear E a; intro a E
        refine Run.nil ?_
        refine then_n ?_
        refine cond_T E rfl ?_
        refine wp_seq ?_
        refine region_plain (n := 3) [(0, .p), (1, .p), (2, .p)] rfl rfl ?_
        refine Run.move rfl E rfl rfl rfl ?_; clear E a; intro a E
        refine Run.add rfl E rfl rfl rfl rfl (q := ((i_ - la + 1 : Nat) : Int)) ((u64_ok (by omega)).trans (by omega)) ?_; clear E a; intro a E
        refine Run.assign rfl E rfl rfl rfl ?_; clear E a; intro a E
        refine Run.nil ?_
        refine then_n ?_
        refine wp_exit ?_
        refine then_x ?_
        refine blk_x ?_
        refine then_n ?_
        refine region_plain (n := 3) [(0, .p), (1, .p), (2, .p)] rfl rfl ?_
        refine Run.move rfl E rfl rfl rfl ?_; clear E a; intro a E
        refine Run.add rfl E rfl rfl rfl rfl (i64_ok (by omega)) ?_; clear E a; intro a E
        refine Run.assign rfl E rfl rfl rfl ?_; clear E a; intro a E
        refine Run.nil ?_
        refine then_n ?_
        replace E := E.setv 12 rfl (show Value.int .i64 ((i_ : Int) + 1) = .int .i64 ((i_ + 1 : Nat) : Int) from rfl)
        replace E := E.setv 11 rfl (show Value.int .u64 ((i_ - la + 1 : Nat) : Int) = .int .u64 ((i_ + 1 - la : Nat) : Int) by rw [Nat.sub_add_comm (by omega)])
        exact ⟨_, (by omega), (i_ + 1), p, cn, la, D, e2, rfl, E.keeps [(2, _), (3, _), (4, _), (5, _), (6, _), (9, _), (10, _), (11, _), (12, _)] ⟨rfl, rfl, rfl, rfl, rfl, rfl, rfl, rfl, rfl, trivial⟩, S, (by omega), (mvS_same hmv (by rw [List.getElem?_eq_getElem hct, List.getElem?_eq_getElem hcs, hce]))⟩
      · skip
        refine Run.eqi rfl E rfl rfl rfl rfl (decide_eq_false (by omega)) ?_; clear E a; intro a E
        refine Run.nil ?_
        refine then_n ?_
        refine cond_F E rfl ?_
        refine wp_skip ?_
        refine then_n ?_
        refine wp_seq ?_
        refine region_plain (n := 5) [(0, .p), (1, .p), (2, .e), (3, .l), (4, .p)] rfl rfl ?_
        refine Run.move rfl E rfl rfl rfl ?_; clear E a; intro a E
        refine Run.move rfl E rfl rfl rfl ?_; clear E a; intro a E
        refine Run.call (args := [.int .u64 ((i_ - la : Nat) : Int)]) rfl rfl E rfl rfl Try.func103 nm103 rfl rfl (rb_walk (i_ - la) (by omega)) ?_; rintro e_ w ⟨A7, c8, rfl, S_⟩; refine ⟨_, rfl, (fun _ => S_.belT), ?_⟩; clear E a; intro a E
        replace S : St _ _ _ [_, _, _, _, _] := St.call (A := []) (R := [_, _, _, _]) S S_; clear S_
        have hv1 := vb_len10 (n := i_ - la) (by omega)
        have hq1 : (p ++ vb (i_ - la)).length = p.length + (vb (i_ - la)).length := List.length_append
        refine Run.appendRd (news := u8s (vb (i_ - la))) (nm := (p ++ vb (i_ - la)).length) 1 rfl E S rfl rfl rfl rfl rfl Try.underlying22 I5 rfl rfl (S.rd 0 rfl) (u8s_one _) (by simp only [List.length_append]) (by omega) (by omega) ?_; clear E a S; intro A9 c10 w a E S
        rw [u8s_append] at S
        replace S : St _ _ _ [_, _, _, _, _] := S
        refine Run.assign rfl E rfl rfl rfl ?_; clear E a; intro a E
        refine Run.nil ?_
        refine then_n ?_
        refine wp_seq ?_
        refine region_drawS (n := 15) [(0, .p), (1, .p), (3, .p), (6, .p), (8, .p), (2, .t), (4, .p), (5, .t), (7, .t), (9, .p), (10, .t), (11, .p), (12, .e), (13, .l), (14, .p)] [0, 0, 2, 0, 14, 30, 0, 64, 0, 448, 960, 2046, 4094, 8191, 16383] S mixed rfl rfl (by kernel_rfl) (fun _ _ _ _ _ h => h) ?_; clear S; intro w S B_; clear B_
        refine Run.move rfl E rfl rfl rfl ?_; clear E a; intro a E
        refine Run.fieldAddr rfl E rfl rfl rfl fo93_1 (rfl) ?_; clear E a; intro a E
        refine Run.move rfl E rfl rfl rfl ?_; clear E a; intro a E
        refine Run.fieldAddr rfl E rfl rfl rfl fo93_1 (rfl) ?_; clear E a; intro a E
        refine Run.move rfl E rfl rfl rfl ?_; clear E a; intro a E
        refine Run.load1 rfl rfl E S rfl rfl rfl one32 (fun _ s_ => s_.objCell 4 7 rfl rfl) ?_; clear E a; intro a E
        refine Run.indexAddr rfl E rfl rfl rfl rfl Try.underlying32 sz3 (by omega) (ix_at1 (m' := i_) (by omega)) ?_; clear E a; intro a E
        refine Run.load1 rfl rfl E S rfl rfl rfl one3 (fun _ s_ => rdAt1 hB s_ (ints_get' ((List.getElem?_eq_getElem hct : t.caps[i_]? = some (t.caps[i_]'hct))))) ?_; clear E a; intro a E
        refine Run.load1 rfl rfl E S rfl rfl rfl one32 (fun _ s_ => s_.objCell 3 7 rfl rfl) ?_; clear E a; intro a E
        refine Run.indexAddr rfl E rfl rfl rfl rfl Try.underlying32 sz3 (by omega) (ix_at1 (m' := i_) (by omega)) ?_; clear E a; intro a E
        refine Run.load1 rfl rfl E S rfl rfl rfl one3 (fun _ s_ => rdAt1 hA s_ (ints_get' ((List.getElem?_eq_getElem hcs : s.caps[i_]? = some (s.caps[i_]'hcs))))) ?_; clear E a; intro a E
        refine Run.sub rfl E rfl rfl rfl rfl (i64_ok (by omega)) ?_; clear E a; intro a E
        refine Run.call (args := [.int .i64 ((t.caps[i_]'hct) - (s.caps[i_]'hcs))]) rfl rfl E rfl rfl Try.func102 nm102 rfl rfl (rsigned_walk (x := (t.caps[i_]'hct) - (s.caps[i_]'hcs)) hcz.1 hcz.2) ?_; rintro e_ w ⟨A11, c12, rfl, S_⟩; refine ⟨_, rfl, (fun _ => S_.belT), ?_⟩; clear E a; intro a E
        replace S : St _ _ _ [_, _, _, _, _, _] := St.call (A := []) (R := [_, _, _, _, _]) S S_; clear S_
        have hv2 := vb_len10 (zig_le hcz.1 hcz.2)
        have hq2 : (p ++ vb (i_ - la) ++ vb (zig ((t.caps[i_]'hct) - (s.caps[i_]'hcs)))).length = (p ++ vb (i_ - la)).length + (vb (zig ((t.caps[i_]'hct) - (s.caps[i_]'hcs)))).length := List.length_append
        refine Run.appendRd (news := u8s (vb (zig ((t.caps[i_]'hct) - (s.caps[i_]'hcs))))) (nm := (p ++ vb (i_ - la) ++ vb (zig ((t.caps[i_]'hct) - (s.caps[i_]'hcs)))).length) 2 rfl E S rfl rfl rfl rfl rfl Try.underlying22 I5 rfl rfl (S.rd 0 rfl) (u8s_one _) (by simp only [List.length_append]) (by omega) (by omega) ?_; clear E a S; intro A13 c14 w a E S
        rw [u8s_append] at S
        replace S : St _ _ _ [_, _, _, _, _, _] := S
        refine Run.assign rfl E rfl rfl rfl ?_; clear E a; intro a E
        refine Run.nil ?_
        refine then_n ?_
        refine wp_seq ?_
        refine region_plain (n := 3) [(0, .p), (1, .p), (2, .p)] rfl rfl ?_
        refine Run.move rfl E rfl rfl rfl ?_; clear E a; intro a E
        refine Run.add rfl E rfl rfl rfl rfl (q := ((cn + 1 : Nat) : Int)) ((u64_ok (by omega)).trans (by omega)) ?_; clear E a; intro a E
        refine Run.assign rfl E rfl rfl rfl ?_; clear E a; intro a E
        refine Run.nil ?_
        refine then_n ?_
        refine region_plain (n := 1) [(0, .p)] rfl rfl ?_
        refine Run.assign rfl E rfl rfl rfl ?_; clear E a; intro a E
        refine Run.nil ?_
        refine blk_n ?_
        refine then_n ?_
        refine region_plain (n := 3) [(0, .p), (1, .p), (2, .p)] rfl rfl ?_
        refine Run.move rfl E rfl rfl rfl ?_; clear E a; intro a E
        refine Run.add rfl E rfl rfl rfl rfl (i64_ok (by omega)) ?_; clear E a; intro a E
        refine Run.assign rfl E rfl rfl rfl ?_; clear E a; intro a E
        refine Run.nil ?_
        refine then_n ?_
        replace E := E.setv 12 rfl (show Value.int .i64 ((i_ : Int) + 1) = .int .i64 ((i_ + 1 : Nat) : Int) from rfl)
        replace E := E.setv 10 rfl (show Value.int .u64 ((cn + 1 : Nat) : Int) = .int .u64 ((cn + 1 : Nat) : Int) from rfl)
        replace E := E.setv 11 rfl (show Value.int .u64 0 = .int .u64 ((i_ + 1 - (i_ + 1) : Nat) : Int) by rw [Nat.sub_self]; rfl)
        have S : St _ _ _ [_, _, _, _, _, _] := S.sel [0, 1, 2, 3, 4, 5] _ rfl rfl
        have S := S.drop1.drop1
        exact ⟨_, (by omega), (i_ + 1), (p ++ vb (i_ - la) ++ vb (zig ((t.caps[i_]'hct) - (s.caps[i_]'hcs)))), (cn + 1), (i_ + 1), A13, c14, rfl, E.keeps [(2, _), (3, _), (4, _), (5, _), (6, _), (9, _), (10, _), (11, _), (12, _)] ⟨rfl, rfl, rfl, rfl, rfl, rfl, rfl, rfl, rfl, trivial⟩, S, (by omega), (mvS_step hmv (List.getElem?_eq_getElem hct) (List.getElem?_eq_getElem hcs) (fun h => hce h.symm))⟩
    · skip
      have hof := mvS_of hmv hsc htc htb hle hi2
      refine Run.lss rfl E rfl rfl rfl rfl (decide_eq_false (by omega)) ?_; clear E a; intro a E
      refine Run.nil ?_
      refine then_n ?_
      refine cond_F E rfl ?_
      refine wp_exit ?_
      refine then_x ?_
      refine then_x ?_
      refine blk_x ?_
      refine then_n ?_
      refine wp_seq ?_
      refine wp_seq ?_
      refine region_plain (n := 2) [(0, .p), (1, .p)] rfl rfl ?_
      refine Run.move rfl E rfl rfl rfl ?_; clear E a; intro a E
      by_cases hcn : 0 < cn
      · skip
        refine Run.gtr rfl E rfl rfl rfl rfl (decide_eq_true (by omega)) ?_; clear E a; intro a E
        refine Run.nil ?_
        refine then_n ?_
        refine cond_T E rfl ?_
        refine wp_seq ?_
        refine region_plain (n := 3) [(0, .p), (1, .p), (2, .p)] rfl rfl ?_
        refine Run.move rfl E rfl rfl rfl ?_; clear E a; intro a E
        refine Run.add rfl E rfl rfl rfl rfl (q := ((mk + 64 : Nat) : Int)) ((u64_ok (by omega)).trans (by omega)) ?_; clear E a; intro a E
        refine Run.assign rfl E rfl rfl rfl ?_; clear E a; intro a E
        refine Run.nil ?_
        refine then_n ?_
        refine wp_seq ?_
        refine region_plain (n := 5) [(0, .p), (1, .p), (2, .e), (3, .l), (4, .p)] rfl rfl ?_
        refine Run.move rfl E rfl rfl rfl ?_; clear E a; intro a E
        refine Run.move rfl E rfl rfl rfl ?_; clear E a; intro a E
        refine Run.call (args := [.int .u64 (cn : Int)]) rfl rfl E rfl rfl Try.func103 nm103 rfl rfl (rb_walk cn (by omega)) ?_; rintro e_ w ⟨A15, c16, rfl, S_⟩; refine ⟨_, rfl, (fun _ => S_.belT), ?_⟩; clear E a; intro a E
        replace S : St _ _ _ [_, _, _, _, _] := St.call (A := []) (R := [_, _, _, _]) S S_; clear S_
        have hv3 := vb_len10 (n := cn) (by omega)
        have hq3 : (o ++ vb cn).length = o.length + (vb cn).length := List.length_append
        refine Run.appendRd (news := u8s (vb cn)) (nm := (o ++ vb cn).length) 2 rfl E S rfl rfl rfl rfl rfl Try.underlying22 I5 rfl rfl (S.rd 0 rfl) (u8s_one _) (by simp only [List.length_append]) (by omega) (by omega) ?_; clear E a S; intro A17 c18 w a E S
        rw [u8s_append] at S
        replace S : St _ _ _ [_, _, _, _, _] := S
        refine Run.assign rfl E rfl rfl rfl ?_; clear E a; intro a E
        refine Run.nil ?_
        refine then_n ?_
        refine region_plain (n := 4) [(0, .p), (1, .p), (2, .l), (3, .p)] rfl rfl ?_
        refine Run.move rfl E rfl rfl rfl ?_; clear E a; intro a E
        refine Run.move rfl E rfl rfl rfl ?_; clear E a; intro a E
        have hq4 : (o ++ vb cn ++ p).length = (o ++ vb cn).length + p.length := List.length_append
        refine Run.appendRd (news := u8s p) (nm := (o ++ vb cn ++ p).length) 2 rfl E S rfl rfl rfl rfl rfl Try.underlying22 I5 rfl rfl (S.rd 1 rfl) (u8s_one _) (by simp only [List.length_append]) (by omega) (by omega) ?_; clear E a S; intro A19 c20 w a E S
        rw [u8s_append] at S
        replace S : St _ _ _ [_, _, _, _, _] := S
        refine Run.assign rfl E rfl rfl rfl ?_; clear E a; intro a E
        refine Run.nil ?_
        refine then_n ?_
        refine wp_seq ?_
        refine region_plain (n := 9) [(0, .p), (1, .p), (2, .l), (3, .p), (4, .e), (5, .p), (6, .e), (7, .l), (8, .p)] rfl rfl ?_
        refine Run.fieldAddr rfl E rfl rfl rfl fo93_0 (rfl) ?_; clear E a; intro a E
        refine Run.indexArr rfl E rfl rfl rfl rfl Try.underlying91 sz3 (by decide) (q := ⟨b2, 0, none⟩) rfl ?_; clear E a; intro a E
        refine Run.load1 rfl rfl E S rfl rfl rfl one3 (fun _ s_ => s_.objCell 4 0 rfl rfl) ?_; clear E a; intro a E
        refine Run.conv rfl E rfl rfl rfl Try.underlying3 Try.underlying145 (q := (t.kind.toNat : Int)) ((u64_ok (by omega)).trans (by omega)) ?_; clear E a; intro a E
        refine Run.call (args := [.int .u64 (t.kind.toNat : Int)]) rfl rfl E rfl rfl Try.func103 nm103 rfl rfl (rb_walk t.kind.toNat (by omega)) ?_; rintro e_ w ⟨A21, c22, rfl, S_⟩; refine ⟨_, rfl, (fun _ => S_.belT), ?_⟩; clear E a; intro a E
        replace S : St _ _ _ [_, _, _, _, _, _] := St.call (A := []) (R := [_, _, _, _, _]) S S_; clear S_
        refine Run.move rfl E rfl rfl rfl ?_; clear E a; intro a E
        refine Run.call (args := [.int .u64 ((mk + 64 : Nat) : Int)]) rfl rfl E rfl rfl Try.func103 nm103 rfl rfl (rb_walk (mk + 64) (by omega)) ?_; rintro e_ w ⟨A23, c24, rfl, S_⟩; refine ⟨_, rfl, (fun _ => S_.belT), ?_⟩; clear E a; intro a E
        replace S : St _ _ _ [_, _, _, _, _, _, _] := St.call (A := []) (R := [_, _, _, _, _, _]) S S_; clear S_
        have hv6 := vb_len10 (n := t.kind.toNat) (by omega)
        have hv7 := vb_len10 (n := (mk + 64)) (by omega)
        have hq6 : (vb t.kind.toNat ++ vb (mk + 64)).length = (vb t.kind.toNat).length + (vb (mk + 64)).length := List.length_append
        refine Run.appendRd (news := u8s (vb (mk + 64))) (nm := (vb t.kind.toNat ++ vb (mk + 64)).length) 1 rfl E S rfl rfl rfl rfl rfl Try.underlying22 I5 rfl rfl (S.rd 0 rfl) (u8s_one _) (by simp only [List.length_append]) (by omega) (by omega) ?_; clear E a S; intro A25 c26 w a E S
        rw [u8s_append] at S
        replace S : St _ _ _ [_, _, _, _, _, _, _] := S
        refine Run.assign rfl E rfl rfl rfl ?_; clear E a; intro a E
        refine Run.nil ?_
        refine then_n ?_
        refine wp_seq ?_
        refine region_plain (n := 4) [(0, .p), (1, .p), (2, .l), (3, .p)] rfl rfl ?_
        refine Run.move rfl E rfl rfl rfl ?_; clear E a; intro a E
        refine Run.move rfl E rfl rfl rfl ?_; clear E a; intro a E
        have hv6 := vb_len10 (n := t.kind.toNat) (by omega)
        have hv7 := vb_len10 (n := (mk + 64)) (by omega)
        have hq6 : (vb t.kind.toNat ++ vb (mk + 64)).length = (vb t.kind.toNat).length + (vb (mk + 64)).length := List.length_append
        have hq7 : ((vb t.kind.toNat ++ vb (mk + 64)) ++ (o ++ vb cn ++ p)).length = (vb t.kind.toNat ++ vb (mk + 64)).length + (o ++ vb cn ++ p).length := List.length_append
        refine Run.appendRd (news := u8s (o ++ vb cn ++ p)) (nm := ((vb t.kind.toNat ++ vb (mk + 64)) ++ (o ++ vb cn ++ p)).length) 1 rfl E S rfl rfl rfl rfl rfl Try.underlying22 I5 rfl rfl (S.rd 4 rfl) (u8s_one _) (by simp only [List.length_append]) (by omega) (by omega) ?_; clear E a S; intro A27 c28 w a E S
        rw [u8s_append] at S
        replace S : St _ _ _ [_, _, _, _, _, _, _] := S
        refine Run.assign rfl E rfl rfl rfl ?_; clear E a; intro a E
        refine Run.nil ?_
        refine then_n ?_
        refine wp_ret ?_
        have hie : i_ = t.caps.length := by omega
        subst hie
        have hfin : (vb t.kind.toNat ++ vb (mk + 64)) ++ (o ++ vb cn ++ p) = rec18 s t := by unfold rec18 mvR; rw [hnum, hmv]; simp only [hcn, if_true, List.append_assoc]
        rw [hfin] at E S
        refine ret1 E Try.results64 rfl ⟨A27, c28, rfl, ?_⟩
        have S : St _ _ _ [_, _, _, _, _, _, _] := S.sel [0, 2, 3, 4, 5, 6, 1] _ rfl rfl
        have S := S.drop1.drop1.drop1.drop1.drop1.drop1
        exact S
      · skip
        refine Run.gtr rfl E rfl rfl rfl rfl (decide_eq_false (by omega)) ?_; clear E a; intro a E
        refine Run.nil ?_
        refine then_n ?_
        refine cond_F E rfl ?_
        refine wp_skip ?_
        refine then_n ?_
        refine wp_seq ?_
        refine region_plain (n := 9) [(0, .p), (1, .p), (2, .l), (3, .p), (4, .e), (5, .p), (6, .e), (7, .l), (8, .p)] rfl rfl ?_
        refine Run.fieldAddr rfl E rfl rfl rfl fo93_0 (rfl) ?_; clear E a; intro a E
        refine Run.indexArr rfl E rfl rfl rfl rfl Try.underlying91 sz3 (by decide) (q := ⟨b2, 0, none⟩) rfl ?_; clear E a; intro a E
        refine Run.load1 rfl rfl E S rfl rfl rfl one3 (fun _ s_ => s_.objCell 3 0 rfl rfl) ?_; clear E a; intro a E
        refine Run.conv rfl E rfl rfl rfl Try.underlying3 Try.underlying145 (q := (t.kind.toNat : Int)) ((u64_ok (by omega)).trans (by omega)) ?_; clear E a; intro a E
        refine Run.call (args := [.int .u64 (t.kind.toNat : Int)]) rfl rfl E rfl rfl Try.func103 nm103 rfl rfl (rb_walk t.kind.toNat (by omega)) ?_; rintro e_ w ⟨A29, c30, rfl, S_⟩; refine ⟨_, rfl, (fun _ => S_.belT), ?_⟩; clear E a; intro a E
        replace S : St _ _ _ [_, _, _, _, _] := St.call (A := []) (R := [_, _, _, _]) S S_; clear S_
        refine Run.move rfl E rfl rfl rfl ?_; clear E a; intro a E
        refine Run.call (args := [.int .u64 (mk : Int)]) rfl rfl E rfl rfl Try.func103 nm103 rfl rfl (rb_walk mk (by omega)) ?_; rintro e_ w ⟨A31, c32, rfl, S_⟩; refine ⟨_, rfl, (fun _ => S_.belT), ?_⟩; clear E a; intro a E
        replace S : St _ _ _ [_, _, _, _, _, _] := St.call (A := []) (R := [_, _, _, _, _]) S S_; clear S_
        have hv6 := vb_len10 (n := t.kind.toNat) (by omega)
        have hv7 := vb_len10 (n := mk) (by omega)
        have hq6 : (vb t.kind.toNat ++ vb mk).length = (vb t.kind.toNat).length + (vb mk).length := List.length_append
        refine Run.appendRd (news := u8s (vb mk)) (nm := (vb t.kind.toNat ++ vb mk).length) 1 rfl E S rfl rfl rfl rfl rfl Try.underlying22 I5 rfl rfl (S.rd 0 rfl) (u8s_one _) (by simp only [List.length_append]) (by omega) (by omega) ?_; clear E a S; intro A33 c34 w a E S
        rw [u8s_append] at S
        replace S : St _ _ _ [_, _, _, _, _, _] := S
        refine Run.assign rfl E rfl rfl rfl ?_; clear E a; intro a E
        refine Run.nil ?_
        refine then_n ?_
        refine wp_seq ?_
        refine region_plain (n := 4) [(0, .p), (1, .p), (2, .l), (3, .p)] rfl rfl ?_
        refine Run.move rfl E rfl rfl rfl ?_; clear E a; intro a E
        refine Run.move rfl E rfl rfl rfl ?_; clear E a; intro a E
        have hv6 := vb_len10 (n := t.kind.toNat) (by omega)
        have hv7 := vb_len10 (n := mk) (by omega)
        have hq6 : (vb t.kind.toNat ++ vb mk).length = (vb t.kind.toNat).length + (vb mk).length := List.length_append
        have hq7 : ((vb t.kind.toNat ++ vb mk) ++ o).length = (vb t.kind.toNat ++ vb mk).length + o.length := List.length_append
        refine Run.appendRd (news := u8s o) (nm := ((vb t.kind.toNat ++ vb mk) ++ o).length) 1 rfl E S rfl rfl rfl rfl rfl Try.underlying22 I5 rfl rfl (S.rd 3 rfl) (u8s_one _) (by simp only [List.length_append]) (by omega) (by omega) ?_; clear E a S; intro A35 c36 w a E S
        rw [u8s_append] at S
        replace S : St _ _ _ [_, _, _, _, _, _] := S
        refine Run.assign rfl E rfl rfl rfl ?_; clear E a; intro a E
        refine Run.nil ?_
        refine then_n ?_
        refine wp_ret ?_
        have hie : i_ = t.caps.length := by omega
        subst hie
        have hfin : (vb t.kind.toNat ++ vb mk) ++ o = rec18 s t := by unfold rec18 mvR; rw [hnum, hmv]; simp only [hcn, if_false, Nat.add_zero, List.append_nil]
        rw [hfin] at E S
        refine ret1 E Try.results64 rfl ⟨A35, c36, rfl, ?_⟩
        have S : St _ _ _ [_, _, _, _, _, _] := S.sel [0, 2, 3, 4, 5, 1] _ rfl rfl
        have S := S.drop1.drop1.drop1.drop1.drop1
        exact S

end
end Go.Proofs.Ytlcglefbhlhcpaa.K
