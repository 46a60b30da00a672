/- A state's record: moved, Bytes; the document's. -/
import Derived.Test.YtlcglefbhlhcpaaKg
import Derived.Test.YtlcglefbhlhcpaaDeR
namespace Go.Proofs.Ytlcglefbhlhcpaa.K
open Go.RowKit
set_option linter.unusedVariables false
set_option maxRecDepth 100000
set_option maxHeartbeats 400000

section
variable {w0 : World} {A B : Option Addr} {c d : Nat} {l m : List Int} {s t : Sta}

theorem moved_walk (H1 : Rd w0 A l.length 1 (ints l)) (H2 : Rd w0 B m.length 1 (ints m)) (hl : ∀ x ∈ l, small x) (hm : ∀ x ∈ m, small x) (hb : m.length ≤ 65536) (hlen : l.length = m.length) : Calls Try.prog 99 [.slice A l.length c, .slice B m.length d].toArray w0 (fun r w' => ∃ C e, r = .returned (.slice C (mvR l m).length e) ∧ St [] w0 w' [.row (.slice C (mvR l m).length e) 5 1 (mvR l m).length (u8s (mvR l m))]) := by
  have S := St.nil [] w0
  refine fn_start Try.func99 rfl 49 rfl rfl [(0, _), (1, _)] ⟨rfl, rfl, trivial⟩ ?_; intro a E
  refine wp_seq ?_
  refine region_plain (n := 1) [(0, .p)] rfl rfl ?_
  refine Run.assign rfl E rfl rfl rfl ?_; clear E a; intro a E
  refine Run.nil ?_
  refine then_n ?_
  refine wp_seq ?_
  refine region_plain (n := 1) [(0, .p)] rfl rfl ?_
  refine Run.assign rfl E rfl rfl rfl ?_; clear E a; intro a E
  refine Run.nil ?_
  refine then_n ?_
  refine wp_seq ?_
  refine region_plain (n := 2) [(0, .p), (1, .p)] rfl rfl ?_
  refine Run.assign rfl E rfl rfl rfl ?_; clear E a; intro a E
  refine Run.assign rfl E rfl rfl rfl ?_; clear E a; intro a E
  refine Run.nil ?_
  refine then_n ?_
  refine wp_seq ?_
  refine wp_seq ?_
  refine region_plain (n := 3) [(0, .p), (1, .p), (2, .p)] rfl rfl ?_
  refine Run.move rfl E rfl rfl rfl ?_; clear E a; intro a E
  refine Run.len rfl E rfl rfl rfl Try.underlying32 ?_; clear E a; intro a E
  refine Run.move rfl E rfl rfl rfl ?_; clear E a; intro a E
  refine Run.nil ?_
  refine then_n ?_
  refine wp_block ?_
  replace S := S.addNil 5 1
  refine wp_loop_ghost (fun n_ a w => ∃ i : Nat, ∃ o : List Nat, ∃ cn : Nat, ∃ la : Nat, ∃ C : Option Addr, ∃ e : Nat, m.length - i = n_ ∧ Env 49 [(0, .slice A l.length c), (4, .slice none 0 0), (5, .slice C o.length e), (6, .int .i64 (cn : Int)), (7, .int .i64 (la : Int)), (10, .slice B m.length d), (11, .int .i64 (m.length : Int)), (12, .int .i64 (i : Int))] a ∧ St _ _ w [.row (.slice C o.length e) 5 1 o.length (u8s o)] ∧ (i ≤ m.length) ∧ (mvS l m i = (o, cn, la))) _ ⟨0, [], 0, 0, none, 0, rfl, E.keeps [(0, _), (4, _), (5, _), (6, _), (7, _), (10, _), (11, _), (12, _)] ⟨rfl, rfl, rfl, rfl, rfl, rfl, rfl, rfl, trivial⟩, S, Nat.zero_le _, rfl⟩ ?_
  clear E a S
  rintro n_ a w ⟨i, o, cn, la, C, e, rfl, E, S, hi, hmv⟩
  refine wp_seq ?_
  refine region_plain (n := 1) [(0, .p)] rfl rfl ?_
  by_cases hlt : i < m.length
  · skip
    have hll : i < l.length := by omega
    have hof := mvS_of hmv hl hm hb hlen hi
    obtain ⟨bA, oA, rfl, hA⟩ := H1.place (by omega)
    obtain ⟨bB, oB, rfl, hB⟩ := H2.place (by omega)
    have hz := zig_small (hm _ (List.getElem_mem hlt)) (hl _ (List.getElem_mem hll))
    refine Run.lss rfl E rfl rfl rfl rfl (decide_eq_true (by omega)) ?_; clear E a; intro a E
    refine Run.nil ?_
    refine then_n ?_
    refine wp_seq ?_
    refine cond_T E rfl ?_
    refine wp_skip ?_
    refine then_n ?_
    refine wp_seq ?_
    refine wp_block ?_
    refine wp_seq ?_
    refine region_plain (n := 5) [(0, .p), (1, .p), (2, .l), (3, .p), (4, .p)] rfl rfl ?_
    refine Run.move rfl E rfl rfl rfl ?_; clear E a; intro a E
    refine Run.indexAddr rfl E rfl rfl rfl rfl Try.underlying32 sz3 (by omega) (ix_at1 (m' := i) (by omega)) ?_; clear E a; intro a E
    refine Run.load1 rfl rfl E S rfl rfl rfl one3 (fun _ s_ => rdAt1 hB s_ (ints_get' ((List.getElem?_eq_getElem hlt : m[i]? = some (m[i]'hlt))))) ?_; clear E a; intro a E
    refine Run.assign rfl E rfl rfl rfl ?_; clear E a; intro a E
    refine Run.assign rfl E rfl rfl rfl ?_; clear E a; intro a E
    refine Run.nil ?_
    refine then_n ?_
    refine wp_seq ?_
    refine wp_seq ?_
    refine region_plain (n := 6) [(0, .p), (1, .p), (2, .p), (3, .p), (4, .l), (5, .p)] rfl rfl ?_
    refine Run.move rfl E rfl rfl rfl ?_; clear E a; intro a E
    refine Run.move rfl E rfl rfl rfl ?_; clear E a; intro a E
    refine Run.move rfl E rfl rfl rfl ?_; clear E a; intro a E
    refine Run.indexAddr rfl E rfl rfl rfl rfl Try.underlying32 sz3 (by omega) (ix_at1 (m' := i) (by omega)) ?_; clear E a; intro a E
    refine Run.load1 rfl rfl E S rfl rfl rfl one3 (fun _ s_ => rdAt1 hA s_ (ints_get' ((List.getElem?_eq_getElem hll : l[i]? = some (l[i]'hll))))) ?_; clear E a; intro a E
    by_cases he : (m[i]'hlt) = (l[i]'hll)
    · skip
      refine Run.eqi rfl E rfl rfl rfl rfl (decide_eq_true (by omega)) ?_; clear E a; intro a E
      refine Run.nil ?_
      refine then_n ?_
      refine cond_T E rfl ?_
      refine wp_exit ?_
      refine then_x ?_
      refine blk_x ?_
      refine then_n ?_
      refine region_plain (n := 2) [(0, .p), (1, .p)] rfl rfl ?_
      refine Run.add rfl E rfl rfl rfl rfl (i64_ok (by omega)) ?_; clear E a; intro a E
      refine Run.move rfl E rfl rfl rfl ?_; clear E a; intro a E
      refine Run.nil ?_
      refine then_n ?_
      replace E := E.setv 12 rfl (show Value.int .i64 ((i : Int) + 1) = .int .i64 ((i + 1 : Nat) : Int) from rfl)
      exact ⟨_, (by omega), (i + 1), o, cn, la, C, e, rfl, E.keeps [(0, _), (4, _), (5, _), (6, _), (7, _), (10, _), (11, _), (12, _)] ⟨rfl, rfl, rfl, rfl, rfl, rfl, rfl, rfl, trivial⟩, S, (by omega), (mvS_same hmv (by rw [List.getElem?_eq_getElem hlt, List.getElem?_eq_getElem hll, he]))⟩
    · skip
      refine Run.eqi rfl E rfl rfl rfl rfl (decide_eq_false (by omega)) ?_; clear E a; intro a E
      refine Run.nil ?_
      refine then_n ?_
      refine cond_F E rfl ?_
      refine wp_skip ?_
      refine then_n ?_
      refine wp_seq ?_
      refine region_plain (n := 8) [(0, .p), (1, .p), (2, .p), (3, .p), (4, .p), (5, .e), (6, .l), (7, .p)] rfl rfl ?_
      refine Run.move rfl E rfl rfl rfl ?_; clear E a; intro a E
      refine Run.move rfl E rfl rfl rfl ?_; clear E a; intro a E
      refine Run.move rfl E rfl rfl rfl ?_; clear E a; intro a E
      refine Run.sub rfl E rfl rfl rfl rfl (i64_ok (by omega)) ?_; clear E a; intro a E
      refine Run.conv rfl E rfl rfl rfl Try.underlying3 Try.underlying145 (q := ((i - la : Nat) : Int)) ((u64_ok (by omega)).trans (by omega)) ?_; clear E a; intro a E
      refine Run.call (args := [.int .u64 ((i - la : Nat) : Int)]) rfl rfl E rfl rfl Try.func100 nm100 rfl rfl (vb_walk (n := (i - la)) (by omega)) ?_; rintro e_ w ⟨A1, c2, rfl, S_⟩; refine ⟨_, rfl, (fun _ => S_.belT), ?_⟩; clear E a; intro a E
      replace S : St _ _ _ [_, _] := St.call (A := []) (R := [_]) S S_; clear S_
      have hv1 := vb_len10 (n := i - la) (by omega)
      have hq1 : (o ++ vb (i - la)).length = o.length + (vb (i - la)).length := List.length_append
      refine Run.appendRd (news := u8s (vb (i - la))) (nm := (o ++ vb (i - la)).length) 1 rfl E S rfl rfl rfl rfl rfl Try.underlying22 I5 rfl rfl (S.rd 0 rfl) (u8s_one _) (by simp only [List.length_append]) (by omega) (by omega) ?_; clear E a S; intro A3 c4 w a E S
      rw [u8s_append] at S
      replace S : St _ _ _ [_, _] := S
      refine Run.assign rfl E rfl rfl rfl ?_; clear E a; intro a E
      refine Run.nil ?_
      refine then_n ?_
      refine wp_seq ?_
      refine region_plain (n := 10) [(0, .p), (1, .p), (2, .p), (3, .p), (4, .p), (5, .l), (6, .p), (7, .e), (8, .l), (9, .p)] rfl rfl ?_
      refine Run.move rfl E rfl rfl rfl ?_; clear E a; intro a E
      refine Run.move rfl E rfl rfl rfl ?_; clear E a; intro a E
      refine Run.move rfl E rfl rfl rfl ?_; clear E a; intro a E
      refine Run.move rfl E rfl rfl rfl ?_; clear E a; intro a E
      refine Run.indexAddr rfl E rfl rfl rfl rfl Try.underlying32 sz3 (by omega) (ix_at1 (m' := i) (by omega)) ?_; clear E a; intro a E
      refine Run.load1 rfl rfl E S rfl rfl rfl one3 (fun _ s_ => rdAt1 hA s_ (ints_get' ((List.getElem?_eq_getElem hll : l[i]? = some (l[i]'hll))))) ?_; clear E a; intro a E
      refine Run.sub rfl E rfl rfl rfl rfl (i64_ok (by omega)) ?_; clear E a; intro a E
      refine Run.call (args := [.int .i64 ((m[i]'hlt) - (l[i]'hll))]) rfl rfl E rfl rfl Try.func98 nm98 rfl rfl (signed_walk (x := (m[i]'hlt) - (l[i]'hll)) hz.1 hz.2) ?_; rintro e_ w ⟨A5, c6, rfl, S_⟩; refine ⟨_, rfl, (fun _ => S_.belT), ?_⟩; clear E a; intro a E
      replace S : St _ _ _ [_, _, _] := St.call (A := []) (R := [_, _]) S S_; clear S_
      have hv2 := vb_len10 (zig_le hz.1 hz.2)
      have hq2 : (o ++ vb (i - la) ++ vb (zig ((m[i]'hlt) - (l[i]'hll)))).length = (o ++ vb (i - la)).length + (vb (zig ((m[i]'hlt) - (l[i]'hll)))).length := List.length_append
      refine Run.appendRd (news := u8s (vb (zig ((m[i]'hlt) - (l[i]'hll))))) (nm := (o ++ vb (i - la) ++ vb (zig ((m[i]'hlt) - (l[i]'hll)))).length) 2 rfl E S rfl rfl rfl rfl rfl Try.underlying22 I5 rfl rfl (S.rd 0 rfl) (u8s_one _) (by simp only [List.length_append]) (by omega) (by omega) ?_; clear E a S; intro A7 c8 w a E S
      rw [u8s_append] at S
      replace S : St _ _ _ [_, _, _] := S
      refine Run.assign rfl E rfl rfl rfl ?_; clear E a; intro a E
      refine Run.nil ?_
      refine then_n ?_
      refine region_plain (n := 6) [(0, .p), (1, .p), (2, .p), (3, .p), (4, .p), (5, .p)] rfl rfl ?_
      refine Run.move rfl E rfl rfl rfl ?_; clear E a; intro a E
      refine Run.add rfl E rfl rfl rfl rfl (i64_ok (by omega)) ?_; clear E a; intro a E
      refine Run.move rfl E rfl rfl rfl ?_; clear E a; intro a E
      refine Run.add rfl E rfl rfl rfl rfl (i64_ok (by omega)) ?_; clear E a; intro a E
      refine Run.assign rfl E rfl rfl rfl ?_; clear E a; intro a E
      refine Run.assign rfl E rfl rfl rfl ?_; clear E a; intro a E
      refine Run.nil ?_
      refine blk_n ?_
      refine then_n ?_
      refine region_plain (n := 2) [(0, .p), (1, .p)] rfl rfl ?_
      refine Run.add rfl E rfl rfl rfl rfl (i64_ok (by omega)) ?_; clear E a; intro a E
      refine Run.move rfl E rfl rfl rfl ?_; clear E a; intro a E
      refine Run.nil ?_
      refine then_n ?_
      replace E := E.setv 12 rfl (show Value.int .i64 ((i : Int) + 1) = .int .i64 ((i + 1 : Nat) : Int) from rfl)
      replace E := E.setv 6 rfl (show Value.int .i64 ((cn : Int) + 1) = .int .i64 ((cn + 1 : Nat) : Int) from rfl)
      replace E := E.setv 7 rfl (show Value.int .i64 ((i : Int) + 1) = .int .i64 ((i + 1 : Nat) : Int) from rfl)
      have S : St _ _ _ [_, _, _] := S.sel [0, 1, 2] _ rfl rfl
      have S := S.drop1.drop1
      exact ⟨_, (by omega), (i + 1), (o ++ vb (i - la) ++ vb (zig ((m[i]'hlt) - (l[i]'hll)))), (cn + 1), (i + 1), A7, c8, rfl, E.keeps [(0, _), (4, _), (5, _), (6, _), (7, _), (10, _), (11, _), (12, _)] ⟨rfl, rfl, rfl, rfl, rfl, rfl, rfl, rfl, trivial⟩, S, (by omega), (mvS_step hmv (List.getElem?_eq_getElem hlt) (List.getElem?_eq_getElem hll) he)⟩
  · skip
    have hof := mvS_of hmv hl hm hb hlen hi
    refine Run.lss rfl E rfl rfl rfl rfl (decide_eq_false (by omega)) ?_; clear E a; intro a E
    refine Run.nil ?_
    refine then_n ?_
    refine wp_seq ?_
    refine cond_F E rfl ?_
    refine wp_exit ?_
    refine then_x ?_
    refine then_x ?_
    refine blk_x ?_
    refine then_n ?_
    refine wp_seq ?_
    refine region_plain (n := 6) [(0, .p), (1, .p), (2, .e), (3, .p), (4, .l), (5, .p)] rfl rfl ?_
    refine Run.move rfl E rfl rfl rfl ?_; clear E a; intro a E
    refine Run.conv rfl E rfl rfl rfl Try.underlying3 Try.underlying145 (q := (cn : Int)) ((u64_ok (by omega)).trans (by omega)) ?_; clear E a; intro a E
    refine Run.call (args := [.int .u64 (cn : Int)]) rfl rfl E rfl rfl Try.func100 nm100 rfl rfl (vb_walk (n := cn) (by omega)) ?_; rintro e_ w ⟨A9, c10, rfl, S_⟩; refine ⟨_, rfl, (fun _ => S_.belT), ?_⟩; clear E a; intro a E
    replace S : St _ _ _ [_, _] := St.call (A := []) (R := [_]) S S_; clear S_
    refine Run.move rfl E rfl rfl rfl ?_; clear E a; intro a E
    have hv3 := vb_len10 (n := cn) (by omega)
    have hq3 : (vb cn ++ o).length = (vb cn).length + o.length := List.length_append
    refine Run.appendRd (news := u8s o) (nm := (vb cn ++ o).length) 0 rfl E S rfl rfl rfl rfl rfl Try.underlying22 I5 rfl rfl (S.rd 1 rfl) (u8s_one _) (by simp only [List.length_append]) (by omega) (by omega) ?_; clear E a S; intro A11 c12 w a E S
    rw [u8s_append] at S
    replace S : St _ _ _ [_, _] := S
    refine Run.assign rfl E rfl rfl rfl ?_; clear E a; intro a E
    refine Run.nil ?_
    refine then_n ?_
    refine wp_ret ?_
    have hfin : vb cn ++ o = mvR l m := mvR_of hmv (by omega)
    rw [hfin] at E S
    refine ret1 E Try.results99 rfl ⟨A11, c12, rfl, ?_⟩
    have S : St _ _ _ [_, _] := S.sel [1, 0] _ rfl rfl
    have S := S.drop1
    exact S

theorem dbytes_nobase (H1 : Rd w0 A s.caps.length 1 (ints s.caps)) (H2 : Rd w0 B t.caps.length 1 (ints t.caps)) (hs : s.caps.length ≤ 140737488355328) (ht : t.caps.length ≤ 140737488355328) (hB : ¬ s.base) : Calls Try.prog 62 [.agg #[.int .i64 s.kind, .int .i64 s.node, .int .i64 s.phase, .int .i64 s.pos, .int .i64 s.start, .int .i64 s.depth, .int .i64 s.org, .slice A s.caps.length c], .agg #[.int .i64 t.kind, .int .i64 t.node, .int .i64 t.phase, .int .i64 t.pos, .int .i64 t.start, .int .i64 t.depth, .int .i64 t.org, .slice B t.caps.length d]].toArray w0 (fun r w' => r = .returned (.tuple #[.slice none 0 0, .int .i64 11]) ∧ Bel w0 w') := by
  have S := St.nil [] w0
  refine fn_start Try.func62 rfl 76 rfl rfl [(0, _), (1, _)] ⟨rfl, rfl, trivial⟩ ?_; intro a E
  refine wp_seq ?_
  refine region_plain (n := 4) [(0, .e), (1, .e), (2, .p), (3, .p)] rfl rfl ?_
  refine Run.box (cs := [.int .i64 s.kind, .int .i64 s.node, .int .i64 s.phase, .int .i64 s.pos, .int .i64 s.start, .int .i64 s.depth, .int .i64 s.org, .slice A s.caps.length c]) rfl rfl E S rfl rfl rfl rfl ?_; clear E a S; intro b1 w a E S B_; clear B_
  refine Run.box (cs := [.int .i64 t.kind, .int .i64 t.node, .int .i64 t.phase, .int .i64 t.pos, .int .i64 t.start, .int .i64 t.depth, .int .i64 t.org, .slice B t.caps.length d]) rfl rfl E S rfl rfl rfl rfl ?_; clear E a S; intro b2 w a E S B_; clear B_
  refine Run.assign rfl E rfl rfl rfl ?_; clear E a; intro a E
  refine Run.assign rfl E rfl rfl rfl ?_; clear E a; intro a E
  refine Run.nil ?_
  refine then_n ?_
  refine wp_seq ?_
  refine wp_seq ?_
  refine region_drawS (n := 10) [(0, .t), (1, .e), (2, .p), (3, .p), (4, .t), (5, .t), (6, .e), (7, .e), (8, .p), (9, .p)] [0, 1, 3, 7, 15, 15, 47, 127, 255, 511] S mixed rfl rfl (by kernel_rfl) (fun _ _ _ _ _ h => h) ?_; clear S; intro w S B_; clear B_
  refine Run.loadN (cs := [.int .i64 s.kind, .int .i64 s.node, .int .i64 s.phase, .int .i64 s.pos, .int .i64 s.start, .int .i64 s.depth, .int .i64 s.org, .slice A s.caps.length c]) rfl rfl E S rfl rfl rfl ag34 rfl (fun _ s => objAll s 1 rfl) ?_; clear E a; intro a E
  refine Run.call (args := [.agg #[.int .i64 s.kind, .int .i64 s.node, .int .i64 s.phase, .int .i64 s.pos, .int .i64 s.start, .int .i64 s.depth, .int .i64 s.org, .slice A s.caps.length c]]) rfl rfl E rfl rfl Try.func95 nm95 rfl rfl (dbase_walk (s := s) (H1.bel S.belT) hs) ?_; rintro e_ w ⟨rfl, B_⟩; refine ⟨_, rfl, fun _ => B_, ?_⟩; clear E a; replace S := S.bel B_; intro a E
  clear B_
  replace E := E.setb 14 rfl (decide_eq_false hB)
  refine Run.not rfl E rfl rfl rfl rfl ?_; clear E a; intro a E
  refine Run.move rfl E rfl rfl rfl ?_; clear E a; intro a E
  refine Run.off rfl E rfl rfl ?_; clear E a; intro a E
  refine Run.off rfl E rfl rfl ?_; clear E a; intro a E
  refine Run.off rfl E rfl rfl ?_; clear E a; intro a E
  refine Run.off rfl E rfl rfl ?_; clear E a; intro a E
  refine Run.off rfl E rfl rfl ?_; clear E a; intro a E
  refine Run.pickT rfl E rfl rfl rfl rfl ?_; clear E a; intro a E
  refine Run.nil ?_
  refine then_n ?_
  refine cond_T E rfl ?_
  refine wp_seq ?_
  refine region_plain (n := 2) [(0, .p), (1, .p)] rfl rfl ?_
  refine Run.assign rfl E rfl rfl rfl ?_; clear E a; intro a E
  refine Run.assign rfl E rfl rfl rfl ?_; clear E a; intro a E
  refine Run.nil ?_
  refine then_n ?_
  refine wp_ret ?_
  refine then_r ?_
  exact ret2 E Try.results62 rfl rfl ⟨rfl, S.belT⟩

theorem dbytes_noright (H1 : Rd w0 A s.caps.length 1 (ints s.caps)) (H2 : Rd w0 B t.caps.length 1 (ints t.caps)) (hs : s.caps.length ≤ 140737488355328) (ht : t.caps.length ≤ 140737488355328) (hB : s.base) (hR : ¬ t.Right s.groups) : Calls Try.prog 62 [.agg #[.int .i64 s.kind, .int .i64 s.node, .int .i64 s.phase, .int .i64 s.pos, .int .i64 s.start, .int .i64 s.depth, .int .i64 s.org, .slice A s.caps.length c], .agg #[.int .i64 t.kind, .int .i64 t.node, .int .i64 t.phase, .int .i64 t.pos, .int .i64 t.start, .int .i64 t.depth, .int .i64 t.org, .slice B t.caps.length d]].toArray w0 (fun r w' => r = .returned (.tuple #[.slice none 0 0, .int .i64 11]) ∧ Bel w0 w') := by
  have S := St.nil [] w0
  refine fn_start Try.func62 rfl 76 rfl rfl [(0, _), (1, _)] ⟨rfl, rfl, trivial⟩ ?_; intro a E
  refine wp_seq ?_
  refine region_plain (n := 4) [(0, .e), (1, .e), (2, .p), (3, .p)] rfl rfl ?_
  refine Run.box (cs := [.int .i64 s.kind, .int .i64 s.node, .int .i64 s.phase, .int .i64 s.pos, .int .i64 s.start, .int .i64 s.depth, .int .i64 s.org, .slice A s.caps.length c]) rfl rfl E S rfl rfl rfl rfl ?_; clear E a S; intro b1 w a E S B_; clear B_
  refine Run.box (cs := [.int .i64 t.kind, .int .i64 t.node, .int .i64 t.phase, .int .i64 t.pos, .int .i64 t.start, .int .i64 t.depth, .int .i64 t.org, .slice B t.caps.length d]) rfl rfl E S rfl rfl rfl rfl ?_; clear E a S; intro b2 w a E S B_; clear B_
  refine Run.assign rfl E rfl rfl rfl ?_; clear E a; intro a E
  refine Run.assign rfl E rfl rfl rfl ?_; clear E a; intro a E
  refine Run.nil ?_
  refine then_n ?_
  refine wp_seq ?_
  refine wp_seq ?_
  refine region_drawS (n := 10) [(0, .t), (1, .e), (2, .p), (3, .p), (4, .t), (5, .t), (6, .e), (7, .e), (8, .p), (9, .p)] [0, 1, 3, 7, 15, 15, 47, 127, 255, 511] S mixed rfl rfl (by kernel_rfl) (fun _ _ _ _ _ h => h) ?_; clear S; intro w S B_; clear B_
  refine Run.loadN (cs := [.int .i64 s.kind, .int .i64 s.node, .int .i64 s.phase, .int .i64 s.pos, .int .i64 s.start, .int .i64 s.depth, .int .i64 s.org, .slice A s.caps.length c]) rfl rfl E S rfl rfl rfl ag34 rfl (fun _ s => objAll s 1 rfl) ?_; clear E a; intro a E
  refine Run.call (args := [.agg #[.int .i64 s.kind, .int .i64 s.node, .int .i64 s.phase, .int .i64 s.pos, .int .i64 s.start, .int .i64 s.depth, .int .i64 s.org, .slice A s.caps.length c]]) rfl rfl E rfl rfl Try.func95 nm95 rfl rfl (dbase_walk (s := s) (H1.bel S.belT) hs) ?_; rintro e_ w ⟨rfl, B_⟩; refine ⟨_, rfl, fun _ => B_, ?_⟩; clear E a; replace S := S.bel B_; intro a E
  clear B_
  replace E := E.setb 14 rfl (decide_eq_true hB)
  refine Run.not rfl E rfl rfl rfl rfl ?_; clear E a; intro a E
  refine Run.move rfl E rfl rfl rfl ?_; clear E a; intro a E
  refine Run.loadN (cs := [.int .i64 t.kind, .int .i64 t.node, .int .i64 t.phase, .int .i64 t.pos, .int .i64 t.start, .int .i64 t.depth, .int .i64 t.org, .slice B t.caps.length d]) rfl rfl E S rfl rfl rfl ag34 rfl (fun _ s => objAll s 0 rfl) ?_; clear E a; intro a E
  refine Run.loadN (cs := [.int .i64 s.kind, .int .i64 s.node, .int .i64 s.phase, .int .i64 s.pos, .int .i64 s.start, .int .i64 s.depth, .int .i64 s.org, .slice A s.caps.length c]) rfl rfl E S rfl rfl rfl ag34 rfl (fun _ s => objAll s 1 rfl) ?_; clear E a; intro a E
  refine Run.call (args := [.agg #[.int .i64 s.kind, .int .i64 s.node, .int .i64 s.phase, .int .i64 s.pos, .int .i64 s.start, .int .i64 s.depth, .int .i64 s.org, .slice A s.caps.length c]]) rfl rfl E rfl rfl Try.func96 nm96 rfl rfl (groups_walk (s := s) hs) ?_; rintro e_ w ⟨rfl, B_⟩; refine ⟨_, rfl, fun _ => B_, ?_⟩; clear E a; replace S := S.bel B_; intro a E
  clear B_
  refine Run.call (args := [.agg #[.int .i64 t.kind, .int .i64 t.node, .int .i64 t.phase, .int .i64 t.pos, .int .i64 t.start, .int .i64 t.depth, .int .i64 t.org, .slice B t.caps.length d], .int .i64 s.groups]) rfl rfl E rfl rfl Try.func26 nm26 rfl rfl (right_walk (s := t) (g := s.groups) (H2.bel S.belT) ht) ?_; rintro e_ w ⟨rfl, B_⟩; refine ⟨_, rfl, fun _ => B_, ?_⟩; clear E a; replace S := S.bel B_; intro a E
  clear B_
  replace E := E.setb 20 rfl (decide_eq_false hR)
  refine Run.not rfl E rfl rfl rfl rfl ?_; clear E a; intro a E
  refine Run.pickF rfl E rfl rfl rfl rfl ?_; clear E a; intro a E
  refine Run.nil ?_
  refine then_n ?_
  refine cond_T E rfl ?_
  refine wp_seq ?_
  refine region_plain (n := 2) [(0, .p), (1, .p)] rfl rfl ?_
  refine Run.assign rfl E rfl rfl rfl ?_; clear E a; intro a E
  refine Run.assign rfl E rfl rfl rfl ?_; clear E a; intro a E
  refine Run.nil ?_
  refine then_n ?_
  refine wp_ret ?_
  refine then_r ?_
  exact ret2 E Try.results62 rfl rfl ⟨rfl, S.belT⟩

theorem vb_head {n hd : Nat} {tl o : List Nat} (h : vb n ++ o = hd :: tl) : (0 < n → 0 < hd) ∧ (n = 0 → hd = 0) := by
  by_cases hn : n < 128
  · rw [vb_low hn] at h; simp at h; omega
  · rw [vb_high (by omega)] at h; simp at h; omega
theorem right_small {t : Sta} {g : Int} (h : t.Right g) : (∀ x ∈ t.nums, small x) ∧ (∀ x ∈ t.caps, small x) := by
  obtain ⟨h1, h2, ⟨h3, h4, h5⟩, ⟨h6, h7⟩, ⟨h8, h9⟩, h10⟩ := h
  constructor
  · intro x hx
    simp only [Sta.nums, List.mem_cons, List.not_mem_nil, or_false] at hx
    unfold small
    rcases hx with rfl | rfl | rfl | rfl | rfl | rfl | rfl <;> omega
  · intro x hx
    have := List.all_eq_true.1 h10 x hx
    unfold okCap at this; unfold small
    have := of_decide_eq_true this
    omega
theorem base_small {s : Sta} (h : s.base) : (∀ x ∈ s.nums, small x) ∧ (∀ x ∈ s.caps, small x) := by
  rcases h with h | ⟨_, _, h⟩
  · exact right_small h
  · rw [h]
    constructor
    · intro x hx
      simp only [Sta.nums, Sta.blank, List.mem_cons, List.not_mem_nil, or_false] at hx
      unfold small
      rcases hx with rfl | rfl | rfl | rfl | rfl | rfl | rfl <;> decide
    · intro x hx
      have := (List.mem_replicate.1 (show x ∈ List.replicate s.caps.length (-1) from hx)).2
      subst this; unfold small; decide
theorem right_len {s t : Sta} (hB : s.base) (hR : t.Right s.groups) : s.caps.length = t.caps.length ∧ t.caps.length ≤ 200 ∧ 1 ≤ t.kind ∧ t.kind ≤ 14 := by
  obtain ⟨h1, h2, ⟨h3, _⟩, _⟩ := hR
  rcases hB with ⟨g1, g2, _⟩ | ⟨g1, g2, _⟩
  · omega
  · omega

set_option maxHeartbeats 2000000 in
theorem dbytes_walk {s t : Sta} (H1 : Rd w0 A s.caps.length 1 (ints s.caps)) (H2 : Rd w0 B t.caps.length 1 (ints t.caps)) (hs : s.caps.length ≤ 140737488355328) (ht : t.caps.length ≤ 140737488355328) (hB : s.base) (hR : t.Right s.groups) : Calls Try.prog 62 [.agg #[.int .i64 s.kind, .int .i64 s.node, .int .i64 s.phase, .int .i64 s.pos, .int .i64 s.start, .int .i64 s.depth, .int .i64 s.org, .slice A s.caps.length c], .agg #[.int .i64 t.kind, .int .i64 t.node, .int .i64 t.phase, .int .i64 t.pos, .int .i64 t.start, .int .i64 t.depth, .int .i64 t.org, .slice B t.caps.length d]].toArray w0 (fun r w' => ∃ C e, r = .returned (.tuple #[.slice C (rec18 s t).length e, .int .i64 0]) ∧ St [] w0 w' [.row (.slice C (rec18 s t).length e) 5 1 (rec18 s t).length (u8s (rec18 s t))]) := by
  have S := St.nil [] w0
  obtain ⟨hss, hsc⟩ := base_small hB
  obtain ⟨hst, htc⟩ := right_small hR
  obtain ⟨hle, ht200, hk1, hk2⟩ := right_len hB hR
  have htb : t.caps.length ≤ 65536 := by omega
  refine fn_start Try.func62 rfl 76 rfl rfl [(0, _), (1, _)] ⟨rfl, rfl, trivial⟩ ?_; intro a E
  refine wp_seq ?_
  refine region_plain (n := 4) [(0, .e), (1, .e), (2, .p), (3, .p)] rfl rfl ?_
  refine Run.box (cs := [.int .i64 s.kind, .int .i64 s.node, .int .i64 s.phase, .int .i64 s.pos, .int .i64 s.start, .int .i64 s.depth, .int .i64 s.org, .slice A s.caps.length c]) rfl rfl E S rfl rfl rfl rfl ?_; clear E a S; intro b1 w a E S B_; clear B_
  refine Run.box (cs := [.int .i64 t.kind, .int .i64 t.node, .int .i64 t.phase, .int .i64 t.pos, .int .i64 t.start, .int .i64 t.depth, .int .i64 t.org, .slice B t.caps.length d]) rfl rfl E S rfl rfl rfl rfl ?_; clear E a S; intro b2 w a E S B_; clear B_
  refine Run.assign rfl E rfl rfl rfl ?_; clear E a; intro a E
  refine Run.assign rfl E rfl rfl rfl ?_; clear E a; intro a E
  refine Run.nil ?_
  refine then_n ?_
  refine wp_seq ?_
  refine wp_seq ?_
  refine region_drawS (n := 10) [(0, .t), (1, .e), (2, .p), (3, .p), (4, .t), (5, .t), (6, .e), (7, .e), (8, .p), (9, .p)] [0, 1, 3, 7, 15, 15, 47, 127, 255, 511] S mixed rfl rfl (by kernel_rfl) (fun _ _ _ _ _ h => h) ?_; clear S; intro w S B_; clear B_
  refine Run.loadN (cs := [.int .i64 s.kind, .int .i64 s.node, .int .i64 s.phase, .int .i64 s.pos, .int .i64 s.start, .int .i64 s.depth, .int .i64 s.org, .slice A s.caps.length c]) rfl rfl E S rfl rfl rfl ag34 rfl (fun _ s => objAll s 1 rfl) ?_; clear E a; intro a E
  refine Run.call (args := [.agg #[.int .i64 s.kind, .int .i64 s.node, .int .i64 s.phase, .int .i64 s.pos, .int .i64 s.start, .int .i64 s.depth, .int .i64 s.org, .slice A s.caps.length c]]) rfl rfl E rfl rfl Try.func95 nm95 rfl rfl (dbase_walk (s := s) (H1.bel S.belT) hs) ?_; rintro e_ w ⟨rfl, B_⟩; refine ⟨_, rfl, fun _ => B_, ?_⟩; clear E a; replace S := S.bel B_; intro a E
  clear B_
  replace E := E.setb 14 rfl (decide_eq_true hB)
  refine Run.not rfl E rfl rfl rfl rfl ?_; clear E a; intro a E
  refine Run.move rfl E rfl rfl rfl ?_; clear E a; intro a E
  refine Run.loadN (cs := [.int .i64 t.kind, .int .i64 t.node, .int .i64 t.phase, .int .i64 t.pos, .int .i64 t.start, .int .i64 t.depth, .int .i64 t.org, .slice B t.caps.length d]) rfl rfl E S rfl rfl rfl ag34 rfl (fun _ s => objAll s 0 rfl) ?_; clear E a; intro a E
  refine Run.loadN (cs := [.int .i64 s.kind, .int .i64 s.node, .int .i64 s.phase, .int .i64 s.pos, .int .i64 s.start, .int .i64 s.depth, .int .i64 s.org, .slice A s.caps.length c]) rfl rfl E S rfl rfl rfl ag34 rfl (fun _ s => objAll s 1 rfl) ?_; clear E a; intro a E
  refine Run.call (args := [.agg #[.int .i64 s.kind, .int .i64 s.node, .int .i64 s.phase, .int .i64 s.pos, .int .i64 s.start, .int .i64 s.depth, .int .i64 s.org, .slice A s.caps.length c]]) rfl rfl E rfl rfl Try.func96 nm96 rfl rfl (groups_walk (s := s) hs) ?_; rintro e_ w ⟨rfl, B_⟩; refine ⟨_, rfl, fun _ => B_, ?_⟩; clear E a; replace S := S.bel B_; intro a E
  clear B_
  refine Run.call (args := [.agg #[.int .i64 t.kind, .int .i64 t.node, .int .i64 t.phase, .int .i64 t.pos, .int .i64 t.start, .int .i64 t.depth, .int .i64 t.org, .slice B t.caps.length d], .int .i64 s.groups]) rfl rfl E rfl rfl Try.func26 nm26 rfl rfl (right_walk (s := t) (g := s.groups) (H2.bel S.belT) ht) ?_; rintro e_ w ⟨rfl, B_⟩; refine ⟨_, rfl, fun _ => B_, ?_⟩; clear E a; replace S := S.bel B_; intro a E
  clear B_
  replace E := E.setb 20 rfl (decide_eq_true hR)
  refine Run.not rfl E rfl rfl rfl rfl ?_; clear E a; intro a E
  refine Run.pickF rfl E rfl rfl rfl rfl ?_; clear E a; intro a E
  refine Run.nil ?_
  refine then_n ?_
  refine cond_F E rfl ?_
  refine wp_skip ?_
  refine then_n ?_
  refine wp_mid (fun a w => ∃ b6 : Nat, ∃ b7 : Nat, Env 76 [(2, .pointer (some ⟨b1, 0, none⟩)), (3, .pointer (some ⟨b2, 0, none⟩)), (4, .slice none 0 0), (5, .int .i64 0), (6, .pointer (some ⟨b6, 0, none⟩)), (7, .pointer (some ⟨b7, 0, none⟩))] a ∧ St [] w0 w [.obj b1 34 [.int .i64 s.kind, .int .i64 s.node, .int .i64 s.phase, .int .i64 s.pos, .int .i64 s.start, .int .i64 s.depth, .int .i64 s.org, .slice A s.caps.length c], .obj b2 34 [.int .i64 t.kind, .int .i64 t.node, .int .i64 t.phase, .int .i64 t.pos, .int .i64 t.start, .int .i64 t.depth, .int .i64 t.org, .slice B t.caps.length d], .obj b6 143 (ints s.nums.tail), .obj b7 143 (ints t.nums.tail)]) ?_ ?_
  · skip
    refine region_tree (n := 8) (.one 0 .t (.one 2 .t (.alt 1 (.alt 3 (.alt 4 (.one 5 .e (.one 6 .l (.one 7 .l .done))) (.alt 5 (.one 4 .e (.one 6 .l (.one 7 .l .done))) .none)) (.alt 4 (.alt 3 (.one 5 .e (.one 6 .l (.one 7 .l .done))) (.alt 5 (.one 3 .e (.one 6 .l (.one 7 .l .done))) .none)) (.alt 5 (.alt 3 (.one 4 .e (.one 6 .l (.one 7 .l .done))) (.alt 4 (.one 3 .e (.one 6 .l (.one 7 .l .done))) .none)) .none))) (.alt 4 (.alt 1 (.alt 3 (.one 5 .e (.one 6 .l (.one 7 .l .done))) (.alt 5 (.one 3 .e (.one 6 .l (.one 7 .l .done))) .none)) (.alt 5 (.one 1 .e (.one 3 .e (.one 6 .l (.one 7 .l .done)))) .none)) (.alt 5 (.alt 1 (.alt 3 (.one 4 .e (.one 6 .l (.one 7 .l .done))) (.alt 4 (.one 3 .e (.one 6 .l (.one 7 .l .done))) .none)) (.alt 4 (.one 1 .e (.one 3 .e (.one 6 .l (.one 7 .l .done)))) .none)) .none))))) [0, 1, 0, 7, 0, 0, 63, 127] S mixed rfl rfl (by kernel_rfl) (fun _ _ _ _ _ h => h) ?_; clear S; intro w S B_; clear B_
    refine RunT.one ?_
    refine Run.loadN (cs := [.int .i64 s.kind, .int .i64 s.node, .int .i64 s.phase, .int .i64 s.pos, .int .i64 s.start, .int .i64 s.depth, .int .i64 s.org, .slice A s.caps.length c]) rfl rfl E S rfl rfl rfl ag34 rfl (fun _ s => objAll s 1 rfl) ?_; clear E a; intro a E
    refine RunT.end ?_
    refine RunT.one ?_
    refine Run.loadN (cs := [.int .i64 t.kind, .int .i64 t.node, .int .i64 t.phase, .int .i64 t.pos, .int .i64 t.start, .int .i64 t.depth, .int .i64 t.org, .slice B t.caps.length d]) rfl rfl E S rfl rfl rfl ag34 rfl (fun _ s => objAll s 0 rfl) ?_; clear E a; intro a E
    refine RunT.end ?_
    refine RunT.alt ?_ ?_
    · skip
      refine Run.call (args := [.agg #[.int .i64 s.kind, .int .i64 s.node, .int .i64 s.phase, .int .i64 s.pos, .int .i64 s.start, .int .i64 s.depth, .int .i64 s.org, .slice A s.caps.length c]]) rfl rfl E rfl rfl Try.func97 nm97 rfl rfl (numbers_walk (s := s) (A := A) (c := c)) ?_; rintro e_ w ⟨rfl, B_⟩; refine ⟨_, rfl, fun _ => B_, ?_⟩; clear E a; replace S := S.bel B_; intro a E
      clear B_
      refine RunT.end ?_
      refine RunT.alt ?_ ?_
      · skip
        refine Run.call (args := [.agg #[.int .i64 t.kind, .int .i64 t.node, .int .i64 t.phase, .int .i64 t.pos, .int .i64 t.start, .int .i64 t.depth, .int .i64 t.org, .slice B t.caps.length d]]) rfl rfl E rfl rfl Try.func97 nm97 rfl rfl (numbers_walk (s := t) (A := B) (c := d)) ?_; rintro e_ w ⟨rfl, B_⟩; refine ⟨_, rfl, fun _ => B_, ?_⟩; clear E a; replace S := S.bel B_; intro a E
        clear B_
        refine RunT.end ?_
        refine RunT.alt ?_ ?_
        · skip
          refine Run.alloc rfl rfl E S rfl rfl z143 rfl ?_; clear E a S; intro b3 w a E S B_; clear B_
          refine RunT.end ?_
          refine RunT.one ?_
          refine Run.alloc rfl rfl E S rfl rfl z143 rfl ?_; clear E a S; intro b4 w a E S B_; clear B_
          refine RunT.end ?_
          refine RunT.one ?_
          refine Run.store (news := [.int .i64 s.node, .int .i64 s.phase, .int .i64 s.pos, .int .i64 s.start, .int .i64 s.depth, .int .i64 s.org]) (cs' := [_, _, _, _, _, _]) (hp' := [_, _, _, _]) 1 rfl E S rfl rfl rfl rfl rfl sz143 rfl rfl rfl rfl ?_; clear S; intro w S
          refine RunT.end ?_
          refine RunT.one ?_
          refine Run.store (news := [.int .i64 t.node, .int .i64 t.phase, .int .i64 t.pos, .int .i64 t.start, .int .i64 t.depth, .int .i64 t.org]) (cs' := [_, _, _, _, _, _]) (hp' := [_, _, _, _]) 0 rfl E S rfl rfl rfl rfl rfl sz143 rfl rfl rfl rfl ?_; clear S; intro w S
          refine RunT.end ?_
          refine RunT.done ?_
          refine then_n ?_
          have S : St _ _ _ [_, _, _, _] := S.sel [3, 2, 1, 0] _ rfl rfl
          exact ⟨b3, b4, E.keeps [(2, _), (3, _), (4, _), (5, _), (6, _), (7, _)] ⟨rfl, rfl, rfl, rfl, rfl, rfl, trivial⟩, S⟩
        · skip
          refine RunT.alt ?_ ?_
          · skip
            refine Run.alloc rfl rfl E S rfl rfl z143 rfl ?_; clear E a S; intro b5 w a E S B_; clear B_
            refine RunT.end ?_
            refine RunT.one ?_
            refine Run.alloc rfl rfl E S rfl rfl z143 rfl ?_; clear E a S; intro b6 w a E S B_; clear B_
            refine RunT.end ?_
            refine RunT.one ?_
            refine Run.store (news := [.int .i64 s.node, .int .i64 s.phase, .int .i64 s.pos, .int .i64 s.start, .int .i64 s.depth, .int .i64 s.org]) (cs' := [_, _, _, _, _, _]) (hp' := [_, _, _, _]) 0 rfl E S rfl rfl rfl rfl rfl sz143 rfl rfl rfl rfl ?_; clear S; intro w S
            refine RunT.end ?_
            refine RunT.one ?_
            refine Run.store (news := [.int .i64 t.node, .int .i64 t.phase, .int .i64 t.pos, .int .i64 t.start, .int .i64 t.depth, .int .i64 t.org]) (cs' := [_, _, _, _, _, _]) (hp' := [_, _, _, _]) 1 rfl E S rfl rfl rfl rfl rfl sz143 rfl rfl rfl rfl ?_; clear S; intro w S
            refine RunT.end ?_
            refine RunT.done ?_
            refine then_n ?_
            have S : St _ _ _ [_, _, _, _] := S.sel [3, 2, 0, 1] _ rfl rfl
            exact ⟨b6, b5, E.keeps [(2, _), (3, _), (4, _), (5, _), (6, _), (7, _)] ⟨rfl, rfl, rfl, rfl, rfl, rfl, trivial⟩, S⟩
          · skip
            exact RunT.none
      · skip
        refine RunT.alt ?_ ?_
        · skip
          refine Run.alloc rfl rfl E S rfl rfl z143 rfl ?_; clear E a S; intro b7 w a E S B_; clear B_
          refine RunT.end ?_
          refine RunT.alt ?_ ?_
          · skip
            refine Run.call (args := [.agg #[.int .i64 t.kind, .int .i64 t.node, .int .i64 t.phase, .int .i64 t.pos, .int .i64 t.start, .int .i64 t.depth, .int .i64 t.org, .slice B t.caps.length d]]) rfl rfl E rfl rfl Try.func97 nm97 rfl rfl (numbers_walk (s := t) (A := B) (c := d)) ?_; rintro e_ w ⟨rfl, B_⟩; refine ⟨_, rfl, fun _ => B_, ?_⟩; clear E a; replace S := S.bel B_; intro a E
            clear B_
            refine RunT.end ?_
            refine RunT.one ?_
            refine Run.alloc rfl rfl E S rfl rfl z143 rfl ?_; clear E a S; intro b8 w a E S B_; clear B_
            refine RunT.end ?_
            refine RunT.one ?_
            refine Run.store (news := [.int .i64 s.node, .int .i64 s.phase, .int .i64 s.pos, .int .i64 s.start, .int .i64 s.depth, .int .i64 s.org]) (cs' := [_, _, _, _, _, _]) (hp' := [_, _, _, _]) 1 rfl E S rfl rfl rfl rfl rfl sz143 rfl rfl rfl rfl ?_; clear S; intro w S
            refine RunT.end ?_
            refine RunT.one ?_
            refine Run.store (news := [.int .i64 t.node, .int .i64 t.phase, .int .i64 t.pos, .int .i64 t.start, .int .i64 t.depth, .int .i64 t.org]) (cs' := [_, _, _, _, _, _]) (hp' := [_, _, _, _]) 0 rfl E S rfl rfl rfl rfl rfl sz143 rfl rfl rfl rfl ?_; clear S; intro w S
            refine RunT.end ?_
            refine RunT.done ?_
            refine then_n ?_
            have S : St _ _ _ [_, _, _, _] := S.sel [3, 2, 1, 0] _ rfl rfl
            exact ⟨b7, b8, E.keeps [(2, _), (3, _), (4, _), (5, _), (6, _), (7, _)] ⟨rfl, rfl, rfl, rfl, rfl, rfl, trivial⟩, S⟩
          · skip
            refine RunT.alt ?_ ?_
            · skip
              refine Run.alloc rfl rfl E S rfl rfl z143 rfl ?_; clear E a S; intro b9 w a E S B_; clear B_
              refine RunT.end ?_
              refine RunT.one ?_
              refine Run.call (args := [.agg #[.int .i64 t.kind, .int .i64 t.node, .int .i64 t.phase, .int .i64 t.pos, .int .i64 t.start, .int .i64 t.depth, .int .i64 t.org, .slice B t.caps.length d]]) rfl rfl E rfl rfl Try.func97 nm97 rfl rfl (numbers_walk (s := t) (A := B) (c := d)) ?_; rintro e_ w ⟨rfl, B_⟩; refine ⟨_, rfl, fun _ => B_, ?_⟩; clear E a; replace S := S.bel B_; intro a E
              clear B_
              refine RunT.end ?_
              refine RunT.one ?_
              refine Run.store (news := [.int .i64 s.node, .int .i64 s.phase, .int .i64 s.pos, .int .i64 s.start, .int .i64 s.depth, .int .i64 s.org]) (cs' := [_, _, _, _, _, _]) (hp' := [_, _, _, _]) 1 rfl E S rfl rfl rfl rfl rfl sz143 rfl rfl rfl rfl ?_; clear S; intro w S
              refine RunT.end ?_
              refine RunT.one ?_
              refine Run.store (news := [.int .i64 t.node, .int .i64 t.phase, .int .i64 t.pos, .int .i64 t.start, .int .i64 t.depth, .int .i64 t.org]) (cs' := [_, _, _, _, _, _]) (hp' := [_, _, _, _]) 0 rfl E S rfl rfl rfl rfl rfl sz143 rfl rfl rfl rfl ?_; clear S; intro w S
              refine RunT.end ?_
              refine RunT.done ?_
              refine then_n ?_
              have S : St _ _ _ [_, _, _, _] := S.sel [3, 2, 1, 0] _ rfl rfl
              exact ⟨b7, b9, E.keeps [(2, _), (3, _), (4, _), (5, _), (6, _), (7, _)] ⟨rfl, rfl, rfl, rfl, rfl, rfl, trivial⟩, S⟩
            · skip
              exact RunT.none
        · skip
          refine RunT.alt ?_ ?_
          · skip
            refine Run.alloc rfl rfl E S rfl rfl z143 rfl ?_; clear E a S; intro b10 w a E S B_; clear B_
            refine RunT.end ?_
            refine RunT.alt ?_ ?_
            · skip
              refine Run.call (args := [.agg #[.int .i64 t.kind, .int .i64 t.node, .int .i64 t.phase, .int .i64 t.pos, .int .i64 t.start, .int .i64 t.depth, .int .i64 t.org, .slice B t.caps.length d]]) rfl rfl E rfl rfl Try.func97 nm97 rfl rfl (numbers_walk (s := t) (A := B) (c := d)) ?_; rintro e_ w ⟨rfl, B_⟩; refine ⟨_, rfl, fun _ => B_, ?_⟩; clear E a; replace S := S.bel B_; intro a E
              clear B_
              refine RunT.end ?_
              refine RunT.one ?_
              refine Run.alloc rfl rfl E S rfl rfl z143 rfl ?_; clear E a S; intro b11 w a E S B_; clear B_
              refine RunT.end ?_
              refine RunT.one ?_
              refine Run.store (news := [.int .i64 s.node, .int .i64 s.phase, .int .i64 s.pos, .int .i64 s.start, .int .i64 s.depth, .int .i64 s.org]) (cs' := [_, _, _, _, _, _]) (hp' := [_, _, _, _]) 0 rfl E S rfl rfl rfl rfl rfl sz143 rfl rfl rfl rfl ?_; clear S; intro w S
              refine RunT.end ?_
              refine RunT.one ?_
              refine Run.store (news := [.int .i64 t.node, .int .i64 t.phase, .int .i64 t.pos, .int .i64 t.start, .int .i64 t.depth, .int .i64 t.org]) (cs' := [_, _, _, _, _, _]) (hp' := [_, _, _, _]) 1 rfl E S rfl rfl rfl rfl rfl sz143 rfl rfl rfl rfl ?_; clear S; intro w S
              refine RunT.end ?_
              refine RunT.done ?_
              refine then_n ?_
              have S : St _ _ _ [_, _, _, _] := S.sel [3, 2, 0, 1] _ rfl rfl
              exact ⟨b11, b10, E.keeps [(2, _), (3, _), (4, _), (5, _), (6, _), (7, _)] ⟨rfl, rfl, rfl, rfl, rfl, rfl, trivial⟩, S⟩
            · skip
              refine RunT.alt ?_ ?_
              · skip
                refine Run.alloc rfl rfl E S rfl rfl z143 rfl ?_; clear E a S; intro b12 w a E S B_; clear B_
                refine RunT.end ?_
                refine RunT.one ?_
                refine Run.call (args := [.agg #[.int .i64 t.kind, .int .i64 t.node, .int .i64 t.phase, .int .i64 t.pos, .int .i64 t.start, .int .i64 t.depth, .int .i64 t.org, .slice B t.caps.length d]]) rfl rfl E rfl rfl Try.func97 nm97 rfl rfl (numbers_walk (s := t) (A := B) (c := d)) ?_; rintro e_ w ⟨rfl, B_⟩; refine ⟨_, rfl, fun _ => B_, ?_⟩; clear E a; replace S := S.bel B_; intro a E
                clear B_
                refine RunT.end ?_
                refine RunT.one ?_
                refine Run.store (news := [.int .i64 s.node, .int .i64 s.phase, .int .i64 s.pos, .int .i64 s.start, .int .i64 s.depth, .int .i64 s.org]) (cs' := [_, _, _, _, _, _]) (hp' := [_, _, _, _]) 0 rfl E S rfl rfl rfl rfl rfl sz143 rfl rfl rfl rfl ?_; clear S; intro w S
                refine RunT.end ?_
                refine RunT.one ?_
                refine Run.store (news := [.int .i64 t.node, .int .i64 t.phase, .int .i64 t.pos, .int .i64 t.start, .int .i64 t.depth, .int .i64 t.org]) (cs' := [_, _, _, _, _, _]) (hp' := [_, _, _, _]) 1 rfl E S rfl rfl rfl rfl rfl sz143 rfl rfl rfl rfl ?_; clear S; intro w S
                refine RunT.end ?_
                refine RunT.done ?_
                refine then_n ?_
                have S : St _ _ _ [_, _, _, _] := S.sel [3, 2, 0, 1] _ rfl rfl
                exact ⟨b12, b10, E.keeps [(2, _), (3, _), (4, _), (5, _), (6, _), (7, _)] ⟨rfl, rfl, rfl, rfl, rfl, rfl, trivial⟩, S⟩
              · skip
                exact RunT.none
          · skip
            exact RunT.none
    · skip
      refine RunT.alt ?_ ?_
      · skip
        refine Run.alloc rfl rfl E S rfl rfl z143 rfl ?_; clear E a S; intro b13 w a E S B_; clear B_
        refine RunT.end ?_
        refine RunT.alt ?_ ?_
        · skip
          refine Run.call (args := [.agg #[.int .i64 s.kind, .int .i64 s.node, .int .i64 s.phase, .int .i64 s.pos, .int .i64 s.start, .int .i64 s.depth, .int .i64 s.org, .slice A s.caps.length c]]) rfl rfl E rfl rfl Try.func97 nm97 rfl rfl (numbers_walk (s := s) (A := A) (c := c)) ?_; rintro e_ w ⟨rfl, B_⟩; refine ⟨_, rfl, fun _ => B_, ?_⟩; clear E a; replace S := S.bel B_; intro a E
          clear B_
          refine RunT.end ?_
          refine RunT.alt ?_ ?_
          · skip
            refine Run.call (args := [.agg #[.int .i64 t.kind, .int .i64 t.node, .int .i64 t.phase, .int .i64 t.pos, .int .i64 t.start, .int .i64 t.depth, .int .i64 t.org, .slice B t.caps.length d]]) rfl rfl E rfl rfl Try.func97 nm97 rfl rfl (numbers_walk (s := t) (A := B) (c := d)) ?_; rintro e_ w ⟨rfl, B_⟩; refine ⟨_, rfl, fun _ => B_, ?_⟩; clear E a; replace S := S.bel B_; intro a E
            clear B_
            refine RunT.end ?_
            refine RunT.one ?_
            refine Run.alloc rfl rfl E S rfl rfl z143 rfl ?_; clear E a S; intro b14 w a E S B_; clear B_
            refine RunT.end ?_
            refine RunT.one ?_
            refine Run.store (news := [.int .i64 s.node, .int .i64 s.phase, .int .i64 s.pos, .int .i64 s.start, .int .i64 s.depth, .int .i64 s.org]) (cs' := [_, _, _, _, _, _]) (hp' := [_, _, _, _]) 1 rfl E S rfl rfl rfl rfl rfl sz143 rfl rfl rfl rfl ?_; clear S; intro w S
            refine RunT.end ?_
            refine RunT.one ?_
            refine Run.store (news := [.int .i64 t.node, .int .i64 t.phase, .int .i64 t.pos, .int .i64 t.start, .int .i64 t.depth, .int .i64 t.org]) (cs' := [_, _, _, _, _, _]) (hp' := [_, _, _, _]) 0 rfl E S rfl rfl rfl rfl rfl sz143 rfl rfl rfl rfl ?_; clear S; intro w S
            refine RunT.end ?_
            refine RunT.done ?_
            refine then_n ?_
            have S : St _ _ _ [_, _, _, _] := S.sel [3, 2, 1, 0] _ rfl rfl
            exact ⟨b13, b14, E.keeps [(2, _), (3, _), (4, _), (5, _), (6, _), (7, _)] ⟨rfl, rfl, rfl, rfl, rfl, rfl, trivial⟩, S⟩
          · skip
            refine RunT.alt ?_ ?_
            · skip
              refine Run.alloc rfl rfl E S rfl rfl z143 rfl ?_; clear E a S; intro b15 w a E S B_; clear B_
              refine RunT.end ?_
              refine RunT.one ?_
              refine Run.call (args := [.agg #[.int .i64 t.kind, .int .i64 t.node, .int .i64 t.phase, .int .i64 t.pos, .int .i64 t.start, .int .i64 t.depth, .int .i64 t.org, .slice B t.caps.length d]]) rfl rfl E rfl rfl Try.func97 nm97 rfl rfl (numbers_walk (s := t) (A := B) (c := d)) ?_; rintro e_ w ⟨rfl, B_⟩; refine ⟨_, rfl, fun _ => B_, ?_⟩; clear E a; replace S := S.bel B_; intro a E
              clear B_
              refine RunT.end ?_
              refine RunT.one ?_
              refine Run.store (news := [.int .i64 s.node, .int .i64 s.phase, .int .i64 s.pos, .int .i64 s.start, .int .i64 s.depth, .int .i64 s.org]) (cs' := [_, _, _, _, _, _]) (hp' := [_, _, _, _]) 1 rfl E S rfl rfl rfl rfl rfl sz143 rfl rfl rfl rfl ?_; clear S; intro w S
              refine RunT.end ?_
              refine RunT.one ?_
              refine Run.store (news := [.int .i64 t.node, .int .i64 t.phase, .int .i64 t.pos, .int .i64 t.start, .int .i64 t.depth, .int .i64 t.org]) (cs' := [_, _, _, _, _, _]) (hp' := [_, _, _, _]) 0 rfl E S rfl rfl rfl rfl rfl sz143 rfl rfl rfl rfl ?_; clear S; intro w S
              refine RunT.end ?_
              refine RunT.done ?_
              refine then_n ?_
              have S : St _ _ _ [_, _, _, _] := S.sel [3, 2, 1, 0] _ rfl rfl
              exact ⟨b13, b15, E.keeps [(2, _), (3, _), (4, _), (5, _), (6, _), (7, _)] ⟨rfl, rfl, rfl, rfl, rfl, rfl, trivial⟩, S⟩
            · skip
              exact RunT.none
        · skip
          refine RunT.alt ?_ ?_
          · skip
            refine Run.alloc rfl rfl E S rfl rfl z143 rfl ?_; clear E a S; intro b16 w a E S B_; clear B_
            refine RunT.end ?_
            refine RunT.one ?_
            refine Run.call (args := [.agg #[.int .i64 s.kind, .int .i64 s.node, .int .i64 s.phase, .int .i64 s.pos, .int .i64 s.start, .int .i64 s.depth, .int .i64 s.org, .slice A s.caps.length c]]) rfl rfl E rfl rfl Try.func97 nm97 rfl rfl (numbers_walk (s := s) (A := A) (c := c)) ?_; rintro e_ w ⟨rfl, B_⟩; refine ⟨_, rfl, fun _ => B_, ?_⟩; clear E a; replace S := S.bel B_; intro a E
            clear B_
            refine RunT.end ?_
            refine RunT.one ?_
            refine Run.call (args := [.agg #[.int .i64 t.kind, .int .i64 t.node, .int .i64 t.phase, .int .i64 t.pos, .int .i64 t.start, .int .i64 t.depth, .int .i64 t.org, .slice B t.caps.length d]]) rfl rfl E rfl rfl Try.func97 nm97 rfl rfl (numbers_walk (s := t) (A := B) (c := d)) ?_; rintro e_ w ⟨rfl, B_⟩; refine ⟨_, rfl, fun _ => B_, ?_⟩; clear E a; replace S := S.bel B_; intro a E
            clear B_
            refine RunT.end ?_
            refine RunT.one ?_
            refine Run.store (news := [.int .i64 s.node, .int .i64 s.phase, .int .i64 s.pos, .int .i64 s.start, .int .i64 s.depth, .int .i64 s.org]) (cs' := [_, _, _, _, _, _]) (hp' := [_, _, _, _]) 1 rfl E S rfl rfl rfl rfl rfl sz143 rfl rfl rfl rfl ?_; clear S; intro w S
            refine RunT.end ?_
            refine RunT.one ?_
            refine Run.store (news := [.int .i64 t.node, .int .i64 t.phase, .int .i64 t.pos, .int .i64 t.start, .int .i64 t.depth, .int .i64 t.org]) (cs' := [_, _, _, _, _, _]) (hp' := [_, _, _, _]) 0 rfl E S rfl rfl rfl rfl rfl sz143 rfl rfl rfl rfl ?_; clear S; intro w S
            refine RunT.end ?_
            refine RunT.done ?_
            refine then_n ?_
            have S : St _ _ _ [_, _, _, _] := S.sel [3, 2, 1, 0] _ rfl rfl
            exact ⟨b13, b16, E.keeps [(2, _), (3, _), (4, _), (5, _), (6, _), (7, _)] ⟨rfl, rfl, rfl, rfl, rfl, rfl, trivial⟩, S⟩
          · skip
            exact RunT.none
      · skip
        refine RunT.alt ?_ ?_
        · skip
          refine Run.alloc rfl rfl E S rfl rfl z143 rfl ?_; clear E a S; intro b17 w a E S B_; clear B_
          refine RunT.end ?_
          refine RunT.alt ?_ ?_
          · skip
            refine Run.call (args := [.agg #[.int .i64 s.kind, .int .i64 s.node, .int .i64 s.phase, .int .i64 s.pos, .int .i64 s.start, .int .i64 s.depth, .int .i64 s.org, .slice A s.caps.length c]]) rfl rfl E rfl rfl Try.func97 nm97 rfl rfl (numbers_walk (s := s) (A := A) (c := c)) ?_; rintro e_ w ⟨rfl, B_⟩; refine ⟨_, rfl, fun _ => B_, ?_⟩; clear E a; replace S := S.bel B_; intro a E
            clear B_
            refine RunT.end ?_
            refine RunT.alt ?_ ?_
            · skip
              refine Run.call (args := [.agg #[.int .i64 t.kind, .int .i64 t.node, .int .i64 t.phase, .int .i64 t.pos, .int .i64 t.start, .int .i64 t.depth, .int .i64 t.org, .slice B t.caps.length d]]) rfl rfl E rfl rfl Try.func97 nm97 rfl rfl (numbers_walk (s := t) (A := B) (c := d)) ?_; rintro e_ w ⟨rfl, B_⟩; refine ⟨_, rfl, fun _ => B_, ?_⟩; clear E a; replace S := S.bel B_; intro a E
              clear B_
              refine RunT.end ?_
              refine RunT.one ?_
              refine Run.alloc rfl rfl E S rfl rfl z143 rfl ?_; clear E a S; intro b18 w a E S B_; clear B_
              refine RunT.end ?_
              refine RunT.one ?_
              refine Run.store (news := [.int .i64 s.node, .int .i64 s.phase, .int .i64 s.pos, .int .i64 s.start, .int .i64 s.depth, .int .i64 s.org]) (cs' := [_, _, _, _, _, _]) (hp' := [_, _, _, _]) 0 rfl E S rfl rfl rfl rfl rfl sz143 rfl rfl rfl rfl ?_; clear S; intro w S
              refine RunT.end ?_
              refine RunT.one ?_
              refine Run.store (news := [.int .i64 t.node, .int .i64 t.phase, .int .i64 t.pos, .int .i64 t.start, .int .i64 t.depth, .int .i64 t.org]) (cs' := [_, _, _, _, _, _]) (hp' := [_, _, _, _]) 1 rfl E S rfl rfl rfl rfl rfl sz143 rfl rfl rfl rfl ?_; clear S; intro w S
              refine RunT.end ?_
              refine RunT.done ?_
              refine then_n ?_
              have S : St _ _ _ [_, _, _, _] := S.sel [3, 2, 0, 1] _ rfl rfl
              exact ⟨b18, b17, E.keeps [(2, _), (3, _), (4, _), (5, _), (6, _), (7, _)] ⟨rfl, rfl, rfl, rfl, rfl, rfl, trivial⟩, S⟩
            · skip
              refine RunT.alt ?_ ?_
              · skip
                refine Run.alloc rfl rfl E S rfl rfl z143 rfl ?_; clear E a S; intro b19 w a E S B_; clear B_
                refine RunT.end ?_
                refine RunT.one ?_
                refine Run.call (args := [.agg #[.int .i64 t.kind, .int .i64 t.node, .int .i64 t.phase, .int .i64 t.pos, .int .i64 t.start, .int .i64 t.depth, .int .i64 t.org, .slice B t.caps.length d]]) rfl rfl E rfl rfl Try.func97 nm97 rfl rfl (numbers_walk (s := t) (A := B) (c := d)) ?_; rintro e_ w ⟨rfl, B_⟩; refine ⟨_, rfl, fun _ => B_, ?_⟩; clear E a; replace S := S.bel B_; intro a E
                clear B_
                refine RunT.end ?_
                refine RunT.one ?_
                refine Run.store (news := [.int .i64 s.node, .int .i64 s.phase, .int .i64 s.pos, .int .i64 s.start, .int .i64 s.depth, .int .i64 s.org]) (cs' := [_, _, _, _, _, _]) (hp' := [_, _, _, _]) 0 rfl E S rfl rfl rfl rfl rfl sz143 rfl rfl rfl rfl ?_; clear S; intro w S
                refine RunT.end ?_
                refine RunT.one ?_
                refine Run.store (news := [.int .i64 t.node, .int .i64 t.phase, .int .i64 t.pos, .int .i64 t.start, .int .i64 t.depth, .int .i64 t.org]) (cs' := [_, _, _, _, _, _]) (hp' := [_, _, _, _]) 1 rfl E S rfl rfl rfl rfl rfl sz143 rfl rfl rfl rfl ?_; clear S; intro w S
                refine RunT.end ?_
                refine RunT.done ?_
                refine then_n ?_
                have S : St _ _ _ [_, _, _, _] := S.sel [3, 2, 0, 1] _ rfl rfl
                exact ⟨b19, b17, E.keeps [(2, _), (3, _), (4, _), (5, _), (6, _), (7, _)] ⟨rfl, rfl, rfl, rfl, rfl, rfl, trivial⟩, S⟩
              · skip
                exact RunT.none
          · skip
            refine RunT.alt ?_ ?_
            · skip
              refine Run.alloc rfl rfl E S rfl rfl z143 rfl ?_; clear E a S; intro b20 w a E S B_; clear B_
              refine RunT.end ?_
              refine RunT.one ?_
              refine Run.call (args := [.agg #[.int .i64 s.kind, .int .i64 s.node, .int .i64 s.phase, .int .i64 s.pos, .int .i64 s.start, .int .i64 s.depth, .int .i64 s.org, .slice A s.caps.length c]]) rfl rfl E rfl rfl Try.func97 nm97 rfl rfl (numbers_walk (s := s) (A := A) (c := c)) ?_; rintro e_ w ⟨rfl, B_⟩; refine ⟨_, rfl, fun _ => B_, ?_⟩; clear E a; replace S := S.bel B_; intro a E
              clear B_
              refine RunT.end ?_
              refine RunT.one ?_
              refine Run.call (args := [.agg #[.int .i64 t.kind, .int .i64 t.node, .int .i64 t.phase, .int .i64 t.pos, .int .i64 t.start, .int .i64 t.depth, .int .i64 t.org, .slice B t.caps.length d]]) rfl rfl E rfl rfl Try.func97 nm97 rfl rfl (numbers_walk (s := t) (A := B) (c := d)) ?_; rintro e_ w ⟨rfl, B_⟩; refine ⟨_, rfl, fun _ => B_, ?_⟩; clear E a; replace S := S.bel B_; intro a E
              clear B_
              refine RunT.end ?_
              refine RunT.one ?_
              refine Run.store (news := [.int .i64 s.node, .int .i64 s.phase, .int .i64 s.pos, .int .i64 s.start, .int .i64 s.depth, .int .i64 s.org]) (cs' := [_, _, _, _, _, _]) (hp' := [_, _, _, _]) 0 rfl E S rfl rfl rfl rfl rfl sz143 rfl rfl rfl rfl ?_; clear S; intro w S
              refine RunT.end ?_
              refine RunT.one ?_
              refine Run.store (news := [.int .i64 t.node, .int .i64 t.phase, .int .i64 t.pos, .int .i64 t.start, .int .i64 t.depth, .int .i64 t.org]) (cs' := [_, _, _, _, _, _]) (hp' := [_, _, _, _]) 1 rfl E S rfl rfl rfl rfl rfl sz143 rfl rfl rfl rfl ?_; clear S; intro w S
              refine RunT.end ?_
              refine RunT.done ?_
              refine then_n ?_
              have S : St _ _ _ [_, _, _, _] := S.sel [3, 2, 0, 1] _ rfl rfl
              exact ⟨b20, b17, E.keeps [(2, _), (3, _), (4, _), (5, _), (6, _), (7, _)] ⟨rfl, rfl, rfl, rfl, rfl, rfl, trivial⟩, S⟩
            · skip
              exact RunT.none
        · skip
          exact RunT.none
  clear E a S
  rintro a w ⟨b6, b7, E, S⟩
  refine wp_seq ?_
  refine region_plain (n := 1) [(0, .p)] rfl rfl ?_
  refine Run.assign rfl E rfl rfl rfl ?_; clear E a; intro a E
  refine Run.nil ?_
  refine then_n ?_
  refine wp_seq ?_
  refine region_plain (n := 1) [(0, .p)] rfl rfl ?_
  refine Run.assign rfl E rfl rfl rfl ?_; clear E a; intro a E
  refine Run.nil ?_
  refine then_n ?_
  refine wp_seq ?_
  refine wp_seq ?_
  refine region_plain (n := 1) [(0, .p)] rfl rfl ?_
  refine Run.move rfl E rfl rfl rfl ?_; clear E a; intro a E
  refine Run.nil ?_
  refine then_n ?_
  refine wp_block ?_
  replace S := S.addNil 5 1
  refine wp_loop_ghost (fun n_ a w => ∃ i : Nat, ∃ o : List Nat, ∃ mk : Nat, ∃ C : Option Addr, ∃ e : Nat, 6 - i = n_ ∧ Env 76 [(2, .pointer (some ⟨b1, 0, none⟩)), (3, .pointer (some ⟨b2, 0, none⟩)), (4, .slice none 0 0), (5, .int .i64 0), (6, .pointer (some ⟨b6, 0, none⟩)), (7, .pointer (some ⟨b7, 0, none⟩)), (8, .int .u64 (mk : Int)), (9, .slice C o.length e), (27, .int .i64 (i : Int))] a ∧ St _ _ w [.row (.slice C o.length e) 5 1 o.length (u8s o), .obj b1 34 [.int .i64 s.kind, .int .i64 s.node, .int .i64 s.phase, .int .i64 s.pos, .int .i64 s.start, .int .i64 s.depth, .int .i64 s.org, .slice A s.caps.length c], .obj b2 34 [.int .i64 t.kind, .int .i64 t.node, .int .i64 t.phase, .int .i64 t.pos, .int .i64 t.start, .int .i64 t.depth, .int .i64 t.org, .slice B t.caps.length d], .obj b6 143 (ints s.nums.tail), .obj b7 143 (ints t.nums.tail)] ∧ (i ≤ 6) ∧ (numS s.nums.tail t.nums.tail i = (o, mk)) ∧ (o.length ≤ 10 * i)) _ ⟨0, [], 0, none, 0, rfl, E.keeps [(2, _), (3, _), (4, _), (5, _), (6, _), (7, _), (8, _), (9, _), (27, _)] ⟨rfl, rfl, rfl, rfl, rfl, rfl, rfl, rfl, rfl, trivial⟩, S, Nat.zero_le _, rfl, Nat.zero_le _⟩ ?_
  clear E a S
  rintro n_ a w ⟨i, o, mk, C, e, rfl, E, S, hi, hnum, hol⟩
  refine wp_seq ?_
  refine region_plain (n := 1) [(0, .p)] rfl rfl ?_
  by_cases hlt : i < 6
  · skip
    have hsl : i < s.nums.tail.length := hlt
    have htl : i < t.nums.tail.length := hlt
    have hmk : mk < 2 ^ i := by have := numS_lt s.nums.tail t.nums.tail i; rw [hnum] at this; exact this
    have hmk6 : mk < 64 := by have : 2 ^ i ≤ 2 ^ 6 := Nat.pow_le_pow_right (by decide) hi; omega
    have hz := zig_small (hst _ (List.mem_of_mem_tail (List.getElem_mem htl))) (hss _ (List.mem_of_mem_tail (List.getElem_mem hsl)))
    refine Run.lss rfl E rfl rfl rfl rfl (decide_eq_true (by omega)) ?_; clear E a; intro a E
    refine Run.nil ?_
    refine then_n ?_
    refine wp_seq ?_
    refine cond_T E rfl ?_
    refine wp_skip ?_
    refine then_n ?_
    refine wp_seq ?_
    refine wp_block ?_
    refine wp_seq ?_
    refine region_plain (n := 2) [(0, .p), (1, .p)] rfl rfl ?_
    refine Run.move rfl E rfl rfl rfl ?_; clear E a; intro a E
    refine Run.assign rfl E rfl rfl rfl ?_; clear E a; intro a E
    refine Run.nil ?_
    refine then_n ?_
    refine wp_seq ?_
    refine region_drawS (n := 7) [(0, .p), (1, .p), (3, .p), (4, .p), (2, .t), (5, .t), (6, .p)] [0, 1, 3, 0, 8, 24, 63] S mixed rfl rfl (by kernel_rfl) (fun _ _ _ _ _ h => h) ?_; clear S; intro w S B_; clear B_
    refine Run.move rfl E rfl rfl rfl ?_; clear E a; intro a E
    refine Run.indexArr rfl E rfl rfl rfl rfl Try.underlying143 sz3 (by omega) (q := ⟨b6, i, none⟩) (ix_at (m' := i) (o := i) rfl (Nat.mul_one _)) ?_; clear E a; intro a E
    refine Run.move rfl E rfl rfl rfl ?_; clear E a; intro a E
    refine Run.indexArr rfl E rfl rfl rfl rfl Try.underlying143 sz3 (by omega) (q := ⟨b7, i, none⟩) (ix_at (m' := i) (o := i) rfl (Nat.mul_one _)) ?_; clear E a; intro a E
    refine Run.load1 rfl rfl E S rfl rfl rfl one3 (fun _ s_ => s_.objCell 3 i rfl (ints_get' (List.getElem?_eq_getElem hsl))) ?_; clear E a; intro a E
    refine Run.load1 rfl rfl E S rfl rfl rfl one3 (fun _ s_ => s_.objCell 4 i rfl (ints_get' (List.getElem?_eq_getElem htl))) ?_; clear E a; intro a E
    by_cases he : (s.nums.tail[i]'hsl) ≠ (t.nums.tail[i]'htl)
    · skip
      refine Run.nei rfl E rfl rfl rfl rfl (decide_eq_true (by omega)) ?_; clear E a; intro a E
      refine Run.nil ?_
      refine then_n ?_
      refine cond_T E rfl ?_
      refine wp_seq ?_
      refine region_plain (n := 5) [(0, .p), (1, .p), (2, .p), (3, .p), (4, .p)] rfl rfl ?_
      refine Run.move rfl E rfl rfl rfl ?_; clear E a; intro a E
      refine Run.move rfl E rfl rfl rfl ?_; clear E a; intro a E
      refine Run.shl (n := i) rfl E rfl rfl rfl rfl (by rw [Nat.ble_eq]; show i ≤ 64; omega) (q := ((2 ^ i : Nat) : Int)) (shl_one i hlt) ?_; clear E a; intro a E
      refine Run.or rfl E rfl rfl rfl rfl (q := ((mk + 2 ^ i : Nat) : Int)) (or_pow i hlt mk hmk6 hmk) ?_; clear E a; intro a E
      refine Run.assign rfl E rfl rfl rfl ?_; clear E a; intro a E
      refine Run.nil ?_
      refine then_n ?_
      refine region_drawS (n := 11) [(0, .p), (1, .p), (2, .p), (4, .p), (5, .p), (3, .t), (6, .t), (7, .p), (8, .e), (9, .l), (10, .p)] [0, 0, 2, 6, 0, 16, 48, 126, 254, 511, 1023] S mixed rfl rfl (by kernel_rfl) (fun _ _ _ _ _ h => h) ?_; clear S; intro w S B_; clear B_
      refine Run.move rfl E rfl rfl rfl ?_; clear E a; intro a E
      refine Run.move rfl E rfl rfl rfl ?_; clear E a; intro a E
      refine Run.indexArr rfl E rfl rfl rfl rfl Try.underlying143 sz3 (by omega) (q := ⟨b7, i, none⟩) (ix_at (m' := i) (o := i) rfl (Nat.mul_one _)) ?_; clear E a; intro a E
      refine Run.move rfl E rfl rfl rfl ?_; clear E a; intro a E
      refine Run.indexArr rfl E rfl rfl rfl rfl Try.underlying143 sz3 (by omega) (q := ⟨b6, i, none⟩) (ix_at (m' := i) (o := i) rfl (Nat.mul_one _)) ?_; clear E a; intro a E
      refine Run.load1 rfl rfl E S rfl rfl rfl one3 (fun _ s_ => s_.objCell 4 i rfl (ints_get' (List.getElem?_eq_getElem htl))) ?_; clear E a; intro a E
      refine Run.load1 rfl rfl E S rfl rfl rfl one3 (fun _ s_ => s_.objCell 3 i rfl (ints_get' (List.getElem?_eq_getElem hsl))) ?_; clear E a; intro a E
      refine Run.sub rfl E rfl rfl rfl rfl (i64_ok (by omega)) ?_; clear E a; intro a E
      refine Run.call (args := [.int .i64 ((t.nums.tail[i]'htl) - (s.nums.tail[i]'hsl))]) rfl rfl E rfl rfl Try.func98 nm98 rfl rfl (signed_walk (x := (t.nums.tail[i]'htl) - (s.nums.tail[i]'hsl)) hz.1 hz.2) ?_; rintro e_ w ⟨A21, c22, rfl, S_⟩; refine ⟨_, rfl, (fun _ => S_.belT), ?_⟩; clear E a; intro a E
      replace S : St _ _ _ [_, _, .obj _ _ [_, _, _, _, _, _, _, _], .obj _ _ [_, _, _, _, _, _, _, _], _, _] := St.call (A := []) (R := [_, _, _, _, _]) S S_; clear S_
      have hv2 := vb_len10 (zig_le hz.1 hz.2)
      have hq2 : (o ++ vb (zig ((t.nums.tail[i]'htl) - (s.nums.tail[i]'hsl)))).length = o.length + (vb (zig ((t.nums.tail[i]'htl) - (s.nums.tail[i]'hsl)))).length := List.length_append
      refine Run.appendRd (news := u8s (vb (zig ((t.nums.tail[i]'htl) - (s.nums.tail[i]'hsl))))) (nm := (o ++ vb (zig ((t.nums.tail[i]'htl) - (s.nums.tail[i]'hsl)))).length) 1 rfl E S rfl rfl rfl rfl rfl Try.underlying22 I5 rfl rfl (S.rd 0 rfl) (u8s_one _) (by simp only [List.length_append]) (by omega) (by omega) ?_; clear E a S; intro A23 c24 w a E S
      rw [u8s_append] at S
      replace S : St _ _ _ [_, _, .obj _ _ [_, _, _, _, _, _, _, _], .obj _ _ [_, _, _, _, _, _, _, _], _, _] := S
      refine Run.assign rfl E rfl rfl rfl ?_; clear E a; intro a E
      refine Run.nil ?_
      refine blk_n ?_
      refine then_n ?_
      refine region_plain (n := 2) [(0, .p), (1, .p)] rfl rfl ?_
      refine Run.add rfl E rfl rfl rfl rfl (i64_ok (by omega)) ?_; clear E a; intro a E
      refine Run.move rfl E rfl rfl rfl ?_; clear E a; intro a E
      refine Run.nil ?_
      refine then_n ?_
      replace E := E.setv 27 rfl (show Value.int .i64 ((i : Int) + 1) = .int .i64 ((i + 1 : Nat) : Int) from rfl)
      have S : St _ _ _ [_, _, _, _, _, _] := S.sel [0, 1, 2, 3, 4, 5] _ rfl rfl
      have S := S.drop1
      exact ⟨_, (by omega), (i + 1), (o ++ vb (zig ((t.nums.tail[i]'htl) - (s.nums.tail[i]'hsl)))), (mk + 2 ^ i), A23, c24, rfl, E.keeps [(2, _), (3, _), (4, _), (5, _), (6, _), (7, _), (8, _), (9, _), (27, _)] ⟨rfl, rfl, rfl, rfl, rfl, rfl, rfl, rfl, rfl, trivial⟩, S, (by omega), (numS_step hnum (List.getElem?_eq_getElem htl) (List.getElem?_eq_getElem hsl) he), (by simp only [List.length_append]; omega)⟩
    · skip
      refine Run.nei rfl E rfl rfl rfl rfl (decide_eq_false (by omega)) ?_; clear E a; intro a E
      refine Run.nil ?_
      refine then_n ?_
      refine cond_F E rfl ?_
      refine wp_skip ?_
      refine blk_n ?_
      refine then_n ?_
      refine region_plain (n := 2) [(0, .p), (1, .p)] rfl rfl ?_
      refine Run.add rfl E rfl rfl rfl rfl (i64_ok (by omega)) ?_; clear E a; intro a E
      refine Run.move rfl E rfl rfl rfl ?_; clear E a; intro a E
      refine Run.nil ?_
      refine then_n ?_
      replace E := E.setv 27 rfl (show Value.int .i64 ((i : Int) + 1) = .int .i64 ((i + 1 : Nat) : Int) from rfl)
      exact ⟨_, (by omega), (i + 1), o, mk, C, e, rfl, E.keeps [(2, _), (3, _), (4, _), (5, _), (6, _), (7, _), (8, _), (9, _), (27, _)] ⟨rfl, rfl, rfl, rfl, rfl, rfl, rfl, rfl, rfl, trivial⟩, S, (by omega), (numS_same hnum (by rw [List.getElem?_eq_getElem htl, List.getElem?_eq_getElem hsl, Decidable.of_not_not he])), (by omega)⟩
  · skip
    obtain rfl : i = 6 := by omega
    have hmk6 : mk < 64 := by have := numS_lt s.nums.tail t.nums.tail 6; rw [hnum] at this; exact this
    refine Run.lss rfl E rfl rfl rfl rfl (decide_eq_false (by omega)) ?_; clear E a; intro a E
    refine Run.nil ?_
    refine then_n ?_
    refine wp_seq ?_
    refine cond_F E rfl ?_
    refine wp_exit ?_
    refine then_x ?_
    refine then_x ?_
    refine blk_x ?_
    refine then_n ?_
    refine wp_seq ?_
    refine region_plain (n := 6) [(0, .p), (1, .l), (2, .p), (3, .l), (4, .e), (5, .p)] rfl rfl ?_
    refine Run.fieldAddr rfl E rfl rfl rfl fo34_7 (rfl) ?_; clear E a; intro a E
    refine Run.load1 rfl rfl E S rfl rfl rfl one32 (fun _ s => s.objCell 1 7 rfl rfl) ?_; clear E a; intro a E
    refine Run.fieldAddr rfl E rfl rfl rfl fo34_7 (rfl) ?_; clear E a; intro a E
    refine Run.load1 rfl rfl E S rfl rfl rfl one32 (fun _ s => s.objCell 2 7 rfl rfl) ?_; clear E a; intro a E
    refine Run.call (args := [.slice A s.caps.length c, .slice B t.caps.length d]) rfl rfl E rfl rfl Try.func99 nm99 rfl rfl (moved_walk (l := s.caps) (m := t.caps) (H1.bel S.belT) (H2.bel S.belT) hsc htc htb hle) ?_; rintro e_ w ⟨C25, e26, rfl, S_⟩; refine ⟨_, rfl, (fun _ => S_.belT), ?_⟩; clear E a; intro a E
    replace S : St _ _ _ [_, _, .obj _ _ [_, _, _, _, _, _, _, _], .obj _ _ [_, _, _, _, _, _, _, _], _, _] := St.call (A := []) (R := [_, _, _, _, _]) S S_; clear S_
    refine Run.assign rfl E rfl rfl rfl ?_; clear E a; intro a E
    refine Run.nil ?_
    refine then_n ?_
    refine wp_seq ?_
    refine wp_seq ?_
    refine region_plain (n := 4) [(0, .p), (1, .p), (2, .l), (3, .p)] rfl rfl ?_
    refine Run.move rfl E rfl rfl rfl ?_; clear E a; intro a E
    obtain ⟨hd, tl, hhd⟩ : ∃ hd tl, (mvR s.caps t.caps) = hd :: tl := by unfold mvR; rcases hv : vb (mvS s.caps t.caps t.caps.length).2.1 with _ | ⟨x, y⟩; have := vb_pos (mvS s.caps t.caps t.caps.length).2.1; rw [hv] at this; simp at this; exact ⟨x, y ++ _, rfl⟩
    have hpos : 0 < (mvR s.caps t.caps).length := by rw [hhd]; simp
    obtain ⟨bM, rfl⟩ := S.rowAddr 0 rfl hpos
    refine Run.indexAddr rfl E rfl rfl rfl rfl Try.underlying22 sz5 (by omega) (ix_at (m' := 0) (o := 0) (rfl) (Nat.mul_one _)) ?_; clear E a; intro a E
    refine Run.load1 rfl rfl E S rfl rfl rfl one5 (fun _ s_ => s_.rowCell 0 rfl (by rw [hhd]; rfl)) ?_; clear E a; intro a E
    obtain ⟨CN, hCN⟩ : ∃ CN, CN = (mvS s.caps t.caps t.caps.length).2.1 := ⟨_, rfl⟩
    have hh := vb_head (n := CN) (hd := hd) (tl := tl) (o := (mvS s.caps t.caps t.caps.length).1) (by rw [hCN]; exact hhd)
    by_cases hcn : 0 < CN
    · skip
      refine Run.gtr rfl E rfl rfl rfl rfl (decide_eq_true (by omega)) ?_; clear E a; intro a E
      refine Run.nil ?_
      refine then_n ?_
      refine cond_T E rfl ?_
      refine wp_seq ?_
      refine region_plain (n := 3) [(0, .p), (1, .p), (2, .p)] rfl rfl ?_
      refine Run.move rfl E rfl rfl rfl ?_; clear E a; intro a E
      refine Run.or rfl E rfl rfl rfl rfl (q := ((mk + 64 : Nat) : Int)) (or_64 mk hmk6) ?_; clear E a; intro a E
      refine Run.assign rfl E rfl rfl rfl ?_; clear E a; intro a E
      refine Run.nil ?_
      refine then_n ?_
      refine region_plain (n := 4) [(0, .p), (1, .p), (2, .l), (3, .p)] rfl rfl ?_
      refine Run.move rfl E rfl rfl rfl ?_; clear E a; intro a E
      refine Run.move rfl E rfl rfl rfl ?_; clear E a; intro a E
      have hml : (mvR s.caps t.caps).length ≤ 10 + 20 * t.caps.length := by unfold mvR; have h1 := (mvS_len hsc htc htb hle t.caps.length (Nat.le_refl _)); have h2 := (mvS_le s.caps t.caps t.caps.length).2; have h3 := vb_len10 (n := (mvS s.caps t.caps t.caps.length).2.1) (by omega); rw [List.length_append]; omega
      have hq5 : (o ++ (mvR s.caps t.caps)).length = o.length + (mvR s.caps t.caps).length := List.length_append
      refine Run.appendRd (news := u8s (mvR s.caps t.caps)) (nm := (o ++ (mvR s.caps t.caps)).length) 1 rfl E S rfl rfl rfl rfl rfl Try.underlying22 I5 rfl rfl (S.rd 0 rfl) (u8s_one _) (by simp only [List.length_append]) (by omega) (by omega) ?_; clear E a S; intro A27 c28 w a E S
      rw [u8s_append] at S
      replace S : St _ _ _ [_, _, .obj _ _ [_, _, _, _, _, _, _, _], .obj _ _ [_, _, _, _, _, _, _, _], _, _] := S
      refine Run.assign rfl E rfl rfl rfl ?_; clear E a; intro a E
      refine Run.nil ?_
      refine then_n ?_
      refine wp_seq ?_
      refine region_plain (n := 8) [(0, .p), (1, .l), (2, .p), (3, .e), (4, .p), (5, .e), (6, .l), (7, .p)] rfl rfl ?_
      refine Run.fieldAddr rfl E rfl rfl rfl fo34_0 (rfl) ?_; clear E a; intro a E
      refine Run.load1 rfl rfl E S rfl rfl rfl one3 (fun _ s => s.objCell 3 0 rfl rfl) ?_; clear E a; intro a E
      refine Run.conv rfl E rfl rfl rfl Try.underlying3 Try.underlying145 (q := (t.kind.toNat : Int)) ((u64_ok (by omega)).trans (by omega)) ?_; clear E a; intro a E
      refine Run.call (args := [.int .u64 (t.kind.toNat : Int)]) rfl rfl E rfl rfl Try.func100 nm100 rfl rfl (vb_walk (n := t.kind.toNat) (by omega)) ?_; rintro e_ w ⟨A29, c30, rfl, S_⟩; refine ⟨_, rfl, (fun _ => S_.belT), ?_⟩; clear E a; intro a E
      replace S : St _ _ _ [_, _, _, .obj _ _ [_, _, _, _, _, _, _, _], .obj _ _ [_, _, _, _, _, _, _, _], _, _] := St.call (A := []) (R := [_, _, _, _, _, _]) S S_; clear S_
      refine Run.move rfl E rfl rfl rfl ?_; clear E a; intro a E
      refine Run.call (args := [.int .u64 ((mk + 64 : Nat) : Int)]) rfl rfl E rfl rfl Try.func100 nm100 rfl rfl (vb_walk (n := (mk + 64)) (by omega)) ?_; rintro e_ w ⟨A31, c32, rfl, S_⟩; refine ⟨_, rfl, (fun _ => S_.belT), ?_⟩; clear E a; intro a E
      replace S : St _ _ _ [_, _, _, _, .obj _ _ [_, _, _, _, _, _, _, _], .obj _ _ [_, _, _, _, _, _, _, _], _, _] := St.call (A := []) (R := [_, _, _, _, _, _, _]) S S_; clear S_
      have hv6 := vb_len10 (n := t.kind.toNat) (by omega)
      have hv7 := vb_len10 (n := (mk + 64)) (by omega)
      have hq6 : (vb t.kind.toNat ++ vb (mk + 64)).length = (vb t.kind.toNat).length + (vb (mk + 64)).length := List.length_append
      refine Run.appendRd (news := u8s (vb (mk + 64))) (nm := (vb t.kind.toNat ++ vb (mk + 64)).length) 1 rfl E S rfl rfl rfl rfl rfl Try.underlying22 I5 rfl rfl (S.rd 0 rfl) (u8s_one _) (by simp only [List.length_append]) (by omega) (by omega) ?_; clear E a S; intro A33 c34 w a E S
      rw [u8s_append] at S
      replace S : St _ _ _ [_, _, _, _, .obj _ _ [_, _, _, _, _, _, _, _], .obj _ _ [_, _, _, _, _, _, _, _], _, _] := S
      refine Run.assign rfl E rfl rfl rfl ?_; clear E a; intro a E
      refine Run.nil ?_
      refine then_n ?_
      refine wp_seq ?_
      refine region_plain (n := 5) [(0, .p), (1, .p), (2, .l), (3, .p), (4, .p)] rfl rfl ?_
      refine Run.move rfl E rfl rfl rfl ?_; clear E a; intro a E
      refine Run.move rfl E rfl rfl rfl ?_; clear E a; intro a E
      have hq5 : (o ++ (mvR s.caps t.caps)).length = o.length + (mvR s.caps t.caps).length := List.length_append
      have hml : (mvR s.caps t.caps).length ≤ 10 + 20 * t.caps.length := by unfold mvR; have h1 := (mvS_len hsc htc htb hle t.caps.length (Nat.le_refl _)); have h2 := (mvS_le s.caps t.caps t.caps.length).2; have h3 := vb_len10 (n := (mvS s.caps t.caps t.caps.length).2.1) (by omega); rw [List.length_append]; omega
      have hv6 := vb_len10 (n := t.kind.toNat) (by omega)
      have hv7 := vb_len10 (n := (mk + 64)) (by omega)
      have hq6 : (vb t.kind.toNat ++ vb (mk + 64)).length = (vb t.kind.toNat).length + (vb (mk + 64)).length := List.length_append
      have hq7 : ((vb t.kind.toNat ++ vb (mk + 64)) ++ (o ++ (mvR s.caps t.caps))).length = (vb t.kind.toNat ++ vb (mk + 64)).length + (o ++ (mvR s.caps t.caps)).length := List.length_append
      refine Run.appendRd (news := u8s (o ++ (mvR s.caps t.caps))) (nm := ((vb t.kind.toNat ++ vb (mk + 64)) ++ (o ++ (mvR s.caps t.caps))).length) 1 rfl E S rfl rfl rfl rfl rfl Try.underlying22 I5 rfl rfl (S.rd 3 rfl) (u8s_one _) (by simp only [List.length_append]) (by omega) (by omega) ?_; clear E a S; intro A35 c36 w a E S
      rw [u8s_append] at S
      replace S : St _ _ _ [_, _, _, _, .obj _ _ [_, _, _, _, _, _, _, _], .obj _ _ [_, _, _, _, _, _, _, _], _, _] := S
      refine Run.assign rfl E rfl rfl rfl ?_; clear E a; intro a E
      refine Run.assign rfl E rfl rfl rfl ?_; clear E a; intro a E
      refine Run.nil ?_
      refine then_n ?_
      refine wp_ret ?_
      have hfin : (vb t.kind.toNat ++ vb (mk + 64)) ++ (o ++ (mvR s.caps t.caps)) = rec18 s t := by unfold rec18; rw [hnum, ← hCN]; simp only [hcn, if_true]
      rw [hfin] at E S
      refine ret2 E Try.results62 rfl rfl ⟨A35, c36, rfl, ?_⟩
      have S : St _ _ _ [_, _, _, _, _, _, _, _] := S.sel [0, 2, 3, 4, 5, 6, 7, 1] _ rfl rfl
      have S := S.drop1.drop1.drop1.drop1.drop1.drop1.drop1
      exact S
    · skip
      refine Run.gtr rfl E rfl rfl rfl rfl (decide_eq_false (by omega)) ?_; clear E a; intro a E
      refine Run.nil ?_
      refine then_n ?_
      refine cond_F E rfl ?_
      refine wp_skip ?_
      refine then_n ?_
      refine wp_seq ?_
      refine region_plain (n := 8) [(0, .p), (1, .l), (2, .p), (3, .e), (4, .p), (5, .e), (6, .l), (7, .p)] rfl rfl ?_
      refine Run.fieldAddr rfl E rfl rfl rfl fo34_0 (rfl) ?_; clear E a; intro a E
      refine Run.load1 rfl rfl E S rfl rfl rfl one3 (fun _ s => s.objCell 3 0 rfl rfl) ?_; clear E a; intro a E
      refine Run.conv rfl E rfl rfl rfl Try.underlying3 Try.underlying145 (q := (t.kind.toNat : Int)) ((u64_ok (by omega)).trans (by omega)) ?_; clear E a; intro a E
      refine Run.call (args := [.int .u64 (t.kind.toNat : Int)]) rfl rfl E rfl rfl Try.func100 nm100 rfl rfl (vb_walk (n := t.kind.toNat) (by omega)) ?_; rintro e_ w ⟨A37, c38, rfl, S_⟩; refine ⟨_, rfl, (fun _ => S_.belT), ?_⟩; clear E a; intro a E
      replace S : St _ _ _ [_, _, _, .obj _ _ [_, _, _, _, _, _, _, _], .obj _ _ [_, _, _, _, _, _, _, _], _, _] := St.call (A := []) (R := [_, _, _, _, _, _]) S S_; clear S_
      refine Run.move rfl E rfl rfl rfl ?_; clear E a; intro a E
      refine Run.call (args := [.int .u64 (mk : Int)]) rfl rfl E rfl rfl Try.func100 nm100 rfl rfl (vb_walk (n := mk) (by omega)) ?_; rintro e_ w ⟨A39, c40, rfl, S_⟩; refine ⟨_, rfl, (fun _ => S_.belT), ?_⟩; clear E a; intro a E
      replace S : St _ _ _ [_, _, _, _, .obj _ _ [_, _, _, _, _, _, _, _], .obj _ _ [_, _, _, _, _, _, _, _], _, _] := St.call (A := []) (R := [_, _, _, _, _, _, _]) S S_; clear S_
      have hv6 := vb_len10 (n := t.kind.toNat) (by omega)
      have hv7 := vb_len10 (n := mk) (by omega)
      have hq6 : (vb t.kind.toNat ++ vb mk).length = (vb t.kind.toNat).length + (vb mk).length := List.length_append
      refine Run.appendRd (news := u8s (vb mk)) (nm := (vb t.kind.toNat ++ vb mk).length) 1 rfl E S rfl rfl rfl rfl rfl Try.underlying22 I5 rfl rfl (S.rd 0 rfl) (u8s_one _) (by simp only [List.length_append]) (by omega) (by omega) ?_; clear E a S; intro A41 c42 w a E S
      rw [u8s_append] at S
      replace S : St _ _ _ [_, _, _, _, .obj _ _ [_, _, _, _, _, _, _, _], .obj _ _ [_, _, _, _, _, _, _, _], _, _] := S
      refine Run.assign rfl E rfl rfl rfl ?_; clear E a; intro a E
      refine Run.nil ?_
      refine then_n ?_
      refine wp_seq ?_
      refine region_plain (n := 5) [(0, .p), (1, .p), (2, .l), (3, .p), (4, .p)] rfl rfl ?_
      refine Run.move rfl E rfl rfl rfl ?_; clear E a; intro a E
      refine Run.move rfl E rfl rfl rfl ?_; clear E a; intro a E
      have hv6 := vb_len10 (n := t.kind.toNat) (by omega)
      have hv7 := vb_len10 (n := mk) (by omega)
      have hq6 : (vb t.kind.toNat ++ vb mk).length = (vb t.kind.toNat).length + (vb mk).length := List.length_append
      have hq7 : ((vb t.kind.toNat ++ vb mk) ++ o).length = (vb t.kind.toNat ++ vb mk).length + o.length := List.length_append
      refine Run.appendRd (news := u8s o) (nm := ((vb t.kind.toNat ++ vb mk) ++ o).length) 1 rfl E S rfl rfl rfl rfl rfl Try.underlying22 I5 rfl rfl (S.rd 3 rfl) (u8s_one _) (by simp only [List.length_append]) (by omega) (by omega) ?_; clear E a S; intro A43 c44 w a E S
      rw [u8s_append] at S
      replace S : St _ _ _ [_, _, _, _, .obj _ _ [_, _, _, _, _, _, _, _], .obj _ _ [_, _, _, _, _, _, _, _], _, _] := S
      refine Run.assign rfl E rfl rfl rfl ?_; clear E a; intro a E
      refine Run.assign rfl E rfl rfl rfl ?_; clear E a; intro a E
      refine Run.nil ?_
      refine then_n ?_
      refine wp_ret ?_
      have hfin : (vb t.kind.toNat ++ vb mk) ++ o = rec18 s t := by unfold rec18; rw [hnum, ← hCN]; simp only [hcn, if_false, Nat.add_zero, List.append_nil]
      rw [hfin] at E S
      refine ret2 E Try.results62 rfl rfl ⟨A43, c44, rfl, ?_⟩
      have S : St _ _ _ [_, _, _, _, _, _, _, _] := S.sel [0, 2, 3, 4, 5, 6, 7, 1] _ rfl rfl
      have S := S.drop1.drop1.drop1.drop1.drop1.drop1.drop1
      exact S

end
end Go.Proofs.Ytlcglefbhlhcpaa.K
