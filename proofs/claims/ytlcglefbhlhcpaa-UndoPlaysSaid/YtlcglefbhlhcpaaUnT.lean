/- The document's book; UndoPlays walked. -/
import Derived.Test.YtlcglefbhlhcpaaKg
import Derived.Test.YtlcglefbhlhcpaaUnS
namespace Go.Proofs.Ytlcglefbhlhcpaa.K
open Go.RowKit
set_option linter.unusedVariables false
set_option maxRecDepth 100000
set_option maxHeartbeats 400000

section
variable {w0 : World} {AL : Option Addr} {cL : Nat} {H : List IRow} {q : IRow}

theorem rnow_walk (HA : Rd w0 AL H.length 1 (hdrs H)) (hq : H[H.length - 1]? = some q) (hl : H.length ≤ 65537) : Calls Try.prog 60 [.agg #[.slice AL H.length cL]].toArray w0 (fun r w' => r = .returned (.slice q.A q.xs.length q.c) ∧ Bel w0 w') := by
  have S := St.nil [] w0
  have h0 : 0 < H.length := by have := (List.getElem?_eq_some_iff.1 hq).1; omega
  obtain ⟨bL, oL, rfl, hA⟩ := HA.place h0
  refine fn_start Try.func60 rfl 11 rfl rfl [(0, _)] ⟨rfl, trivial⟩ ?_; intro a E
  refine wp_seq ?_
  refine region_plain (n := 2) [(0, .e), (1, .p)] rfl rfl ?_
  refine Run.box (cs := [.slice (some ⟨bL, oL, none⟩) H.length cL]) rfl rfl E S rfl rfl rfl rfl ?_; clear E a S; intro b1 w a E S B_; clear B_
  refine Run.assign rfl E rfl rfl rfl ?_; clear E a; intro a E
  refine Run.nil ?_
  refine then_n ?_
  refine wp_seq ?_
  refine region_plain (n := 9) [(0, .p), (1, .l), (2, .p), (3, .l), (4, .p), (5, .p), (6, .p), (7, .l), (8, .p)] rfl rfl ?_
  refine Run.fieldAddr rfl E rfl rfl rfl fo80_0 (rfl) ?_; clear E a; intro a E
  refine Run.load1 rfl rfl E S rfl rfl rfl one78 (fun _ s => s.objCell 0 0 rfl rfl) ?_; clear E a; intro a E
  refine Run.fieldAddr rfl E rfl rfl rfl fo80_0 (rfl) ?_; clear E a; intro a E
  refine Run.load1 rfl rfl E S rfl rfl rfl one78 (fun _ s => s.objCell 0 0 rfl rfl) ?_; clear E a; intro a E
  refine Run.len rfl E rfl rfl rfl Try.underlying78 ?_; clear E a; intro a E
  refine Run.sub rfl E rfl rfl rfl rfl (i64_ok (by omega)) ?_; clear E a; intro a E
  refine Run.indexAddr rfl E rfl rfl rfl rfl Try.underlying78 sz32 (by omega) (ix_at1 (m' := (H.length - 1)) (by omega)) ?_; clear E a; intro a E
  refine Run.load1 rfl rfl E S rfl rfl rfl one32 (fun _ s_ => rdAt1 hA s_ (hdrs_get hq)) ?_; clear E a; intro a E
  refine Run.assign rfl E rfl rfl rfl ?_; clear E a; intro a E
  refine Run.nil ?_
  refine then_n ?_
  refine wp_ret ?_
  exact ret1 E Try.results60 rfl ⟨rfl, S.belT⟩

theorem rundo_low {m : Int} (h : m < 0) : Calls Try.prog 58 [.agg #[.slice AL H.length cL], .int .i64 m].toArray w0 (fun r w' => r = .returned (.tuple #[.agg #[.slice AL H.length cL], .bool false]) ∧ Bel w0 w') := by
  have S := St.nil [] w0
  refine fn_start Try.func58 rfl 23 rfl rfl [(0, _), (1, _)] ⟨rfl, rfl, trivial⟩ ?_; intro a E
  refine wp_seq ?_
  refine region_plain (n := 3) [(0, .e), (1, .e), (2, .p)] rfl rfl ?_
  refine Run.box (cs := [.slice AL H.length cL]) rfl rfl E S rfl rfl rfl rfl ?_; clear E a S; intro b1 w a E S B_; clear B_
  refine Run.alloc rfl rfl E S rfl rfl z80 rfl ?_; clear E a S; intro b2 w a E S B_; clear B_
  refine Run.assign rfl E rfl rfl rfl ?_; clear E a; intro a E
  refine Run.nil ?_
  refine then_n ?_
  refine wp_seq ?_
  refine wp_seq ?_
  refine region_plain (n := 9) [(0, .p), (1, .p), (2, .p), (3, .p), (4, .p), (5, .l), (6, .p), (7, .p), (8, .p)] rfl rfl ?_
  refine Run.move rfl E rfl rfl rfl ?_; clear E a; intro a E
  refine Run.lss rfl E rfl rfl rfl rfl (decide_eq_true (by omega)) ?_; clear E a; intro a E
  refine Run.move rfl E rfl rfl rfl ?_; clear E a; intro a E
  refine Run.off rfl E rfl rfl ?_; clear E a; intro a E
  refine Run.off rfl E rfl rfl ?_; clear E a; intro a E
  refine Run.off rfl E rfl rfl ?_; clear E a; intro a E
  refine Run.off rfl E rfl rfl ?_; clear E a; intro a E
  refine Run.off rfl E rfl rfl ?_; clear E a; intro a E
  refine Run.pickT rfl E rfl rfl rfl rfl ?_; clear E a; intro a E
  refine Run.nil ?_
  refine then_n ?_
  refine cond_T E rfl ?_
  refine wp_seq ?_
  refine region_plain (n := 3) [(0, .l), (1, .l), (2, .p)] rfl rfl ?_
  refine Run.loadN (cs := [.slice AL H.length cL]) rfl rfl E S rfl rfl rfl ag80 rfl (fun _ s => objAll s 1 rfl) ?_; clear E a; intro a E
  refine Run.store (news := [.slice AL H.length cL]) (cs' := [_]) (hp' := [_, _]) 0 rfl E S rfl rfl rfl rfl rfl sz80 rfl rfl rfl rfl ?_; clear S; intro w S
  refine Run.assign rfl E rfl rfl rfl ?_; clear E a; intro a E
  refine Run.nil ?_
  refine then_n ?_
  refine wp_ret ?_
  refine then_r ?_
  exact retN E (vs := [.agg #[.slice AL H.length cL], .bool false]) Try.results58 (.cell (E.slot _ _ rfl) (run_loadVarAgg ag80 rfl (objAll S 0 rfl)) (.tmp (E.slot _ _ rfl) .nil)) rfl ⟨rfl, S.belT⟩

theorem rundo_high {m : Int} (h0 : 0 ≤ m) (h : (H.length : Int) ≤ m) : Calls Try.prog 58 [.agg #[.slice AL H.length cL], .int .i64 m].toArray w0 (fun r w' => r = .returned (.tuple #[.agg #[.slice AL H.length cL], .bool false]) ∧ Bel w0 w') := by
  have S := St.nil [] w0
  refine fn_start Try.func58 rfl 23 rfl rfl [(0, _), (1, _)] ⟨rfl, rfl, trivial⟩ ?_; intro a E
  refine wp_seq ?_
  refine region_plain (n := 3) [(0, .e), (1, .e), (2, .p)] rfl rfl ?_
  refine Run.box (cs := [.slice AL H.length cL]) rfl rfl E S rfl rfl rfl rfl ?_; clear E a S; intro b1 w a E S B_; clear B_
  refine Run.alloc rfl rfl E S rfl rfl z80 rfl ?_; clear E a S; intro b2 w a E S B_; clear B_
  refine Run.assign rfl E rfl rfl rfl ?_; clear E a; intro a E
  refine Run.nil ?_
  refine then_n ?_
  refine wp_seq ?_
  refine wp_seq ?_
  refine region_plain (n := 9) [(0, .p), (1, .p), (2, .p), (3, .p), (4, .p), (5, .l), (6, .p), (7, .p), (8, .p)] rfl rfl ?_
  refine Run.move rfl E rfl rfl rfl ?_; clear E a; intro a E
  refine Run.lss rfl E rfl rfl rfl rfl (decide_eq_false (by omega)) ?_; clear E a; intro a E
  refine Run.move rfl E rfl rfl rfl ?_; clear E a; intro a E
  refine Run.move rfl E rfl rfl rfl ?_; clear E a; intro a E
  refine Run.fieldAddr rfl E rfl rfl rfl fo80_0 (rfl) ?_; clear E a; intro a E
  refine Run.load1 rfl rfl E S rfl rfl rfl one78 (fun _ s => s.objCell 1 0 rfl rfl) ?_; clear E a; intro a E
  refine Run.len rfl E rfl rfl rfl Try.underlying78 ?_; clear E a; intro a E
  refine Run.geq rfl E rfl rfl rfl rfl (decide_eq_true (by omega)) ?_; clear E a; intro a E
  refine Run.pickF rfl E rfl rfl rfl rfl ?_; clear E a; intro a E
  refine Run.nil ?_
  refine then_n ?_
  refine cond_T E rfl ?_
  refine wp_seq ?_
  refine region_plain (n := 3) [(0, .l), (1, .l), (2, .p)] rfl rfl ?_
  refine Run.loadN (cs := [.slice AL H.length cL]) rfl rfl E S rfl rfl rfl ag80 rfl (fun _ s => objAll s 1 rfl) ?_; clear E a; intro a E
  refine Run.store (news := [.slice AL H.length cL]) (cs' := [_]) (hp' := [_, _]) 0 rfl E S rfl rfl rfl rfl rfl sz80 rfl rfl rfl rfl ?_; clear S; intro w S
  refine Run.assign rfl E rfl rfl rfl ?_; clear E a; intro a E
  refine Run.nil ?_
  refine then_n ?_
  refine wp_ret ?_
  refine then_r ?_
  exact retN E (vs := [.agg #[.slice AL H.length cL], .bool false]) Try.results58 (.cell (E.slot _ _ rfl) (run_loadVarAgg ag80 rfl (objAll S 0 rfl)) (.tmp (E.slot _ _ rfl) .nil)) rfl ⟨rfl, S.belT⟩

theorem rundo_ok {m : Nat} (h : m < H.length) (hc : H.length ≤ cL) (hl : H.length ≤ 65537) : Calls Try.prog 58 [.agg #[.slice AL H.length cL], .int .i64 (m : Int)].toArray w0 (fun r w' => r = .returned (.tuple #[.agg #[.slice AL (m + 1) cL], .bool true]) ∧ Bel w0 w') := by
  have S := St.nil [] w0
  refine fn_start Try.func58 rfl 23 rfl rfl [(0, _), (1, _)] ⟨rfl, rfl, trivial⟩ ?_; intro a E
  refine wp_seq ?_
  refine region_plain (n := 3) [(0, .e), (1, .e), (2, .p)] rfl rfl ?_
  refine Run.box (cs := [.slice AL H.length cL]) rfl rfl E S rfl rfl rfl rfl ?_; clear E a S; intro b1 w a E S B_; clear B_
  refine Run.alloc rfl rfl E S rfl rfl z80 rfl ?_; clear E a S; intro b2 w a E S B_; clear B_
  refine Run.assign rfl E rfl rfl rfl ?_; clear E a; intro a E
  refine Run.nil ?_
  refine then_n ?_
  refine wp_seq ?_
  refine wp_seq ?_
  refine region_plain (n := 9) [(0, .p), (1, .p), (2, .p), (3, .p), (4, .p), (5, .l), (6, .p), (7, .p), (8, .p)] rfl rfl ?_
  refine Run.move rfl E rfl rfl rfl ?_; clear E a; intro a E
  refine Run.lss rfl E rfl rfl rfl rfl (decide_eq_false (by omega)) ?_; clear E a; intro a E
  refine Run.move rfl E rfl rfl rfl ?_; clear E a; intro a E
  refine Run.move rfl E rfl rfl rfl ?_; clear E a; intro a E
  refine Run.fieldAddr rfl E rfl rfl rfl fo80_0 (rfl) ?_; clear E a; intro a E
  refine Run.load1 rfl rfl E S rfl rfl rfl one78 (fun _ s => s.objCell 1 0 rfl rfl) ?_; clear E a; intro a E
  refine Run.len rfl E rfl rfl rfl Try.underlying78 ?_; clear E a; intro a E
  refine Run.geq rfl E rfl rfl rfl rfl (decide_eq_false (by omega)) ?_; clear E a; intro a E
  refine Run.pickF rfl E rfl rfl rfl rfl ?_; clear E a; intro a E
  refine Run.nil ?_
  refine then_n ?_
  refine cond_F E rfl ?_
  refine wp_skip ?_
  refine then_n ?_
  refine wp_seq ?_
  refine region_plain (n := 7) [(0, .p), (1, .l), (2, .p), (3, .p), (4, .p), (5, .p), (6, .l)] rfl rfl ?_
  refine Run.fieldAddr rfl E rfl rfl rfl fo80_0 (rfl) ?_; clear E a; intro a E
  refine Run.load1 rfl rfl E S rfl rfl rfl one78 (fun _ s => s.objCell 1 0 rfl rfl) ?_; clear E a; intro a E
  refine Run.move rfl E rfl rfl rfl ?_; clear E a; intro a E
  refine Run.add rfl E rfl rfl rfl rfl (i64_ok (by omega)) ?_; clear E a; intro a E
  refine Run.sliceH rfl E rfl rfl rfl rfl Try.underlying78 sz32 (by omega) (q := (m + 1)) (by omega) ?_; clear E a; intro a E
  refine Run.fieldAddr rfl E rfl rfl rfl fo80_0 (rfl) ?_; clear E a; intro a E
  refine Run.store (news := [.slice AL (m + 1) cL]) (cs' := [_]) (hp' := [_, _]) 1 rfl E S rfl rfl rfl rfl rfl sz78 rfl rfl rfl rfl ?_; clear S; intro w S
  refine Run.nil ?_
  refine then_n ?_
  refine wp_seq ?_
  refine region_plain (n := 3) [(0, .l), (1, .l), (2, .p)] rfl rfl ?_
  refine Run.loadN (cs := [.slice AL (m + 1) cL]) rfl rfl E S rfl rfl rfl ag80 rfl (fun _ s => objAll s 1 rfl) ?_; clear E a; intro a E
  refine Run.store (news := [.slice AL (m + 1) cL]) (cs' := [_]) (hp' := [_, _]) 0 rfl E S rfl rfl rfl rfl rfl sz80 rfl rfl rfl rfl ?_; clear S; intro w S
  refine Run.assign rfl E rfl rfl rfl ?_; clear E a; intro a E
  refine Run.nil ?_
  refine then_n ?_
  refine wp_ret ?_
  exact retN E (vs := [.agg #[.slice AL (m + 1) cL], .bool true]) Try.results58 (.cell (E.slot _ _ rfl) (run_loadVarAgg ag80 rfl (objAll S 0 rfl)) (.tmp (E.slot _ _ rfl) .nil)) rfl ⟨rfl, S.belT⟩

theorem rundo_any {m : Int} (hc : H.length ≤ cL) (hl : H.length ≤ 65537) : Calls Try.prog 58 [.agg #[.slice AL H.length cL], .int .i64 m].toArray w0 (fun r w' => r = .returned (.tuple #[.agg #[.slice AL (unH H m).length cL], .bool (decide (0 ≤ m ∧ m < (H.length : Int)))]) ∧ Bel w0 w') := by
  rcases Int.lt_or_le m 0 with h | h0
  · refine (rundo_low h).mono ?_
    rintro r w' ⟨rfl, hB⟩
    unfold unH; rw [if_neg (by omega), decide_eq_false (by omega)]; exact ⟨rfl, hB⟩
  · rcases Int.lt_or_le m (H.length : Int) with h1 | h1
    · obtain ⟨k, rfl⟩ : ∃ k : Nat, m = (k : Int) := ⟨m.toNat, by omega⟩
      refine (rundo_ok (H := H) (m := k) (by omega) hc hl).mono ?_
      rintro r w' ⟨rfl, hB⟩
      unfold unH; rw [if_pos ⟨h0, h1⟩, decide_eq_true ⟨h0, h1⟩, Int.toNat_natCast]
      have e : (H.take (k + 1)).length = k + 1 := by simp; omega
      rw [e]; exact ⟨rfl, hB⟩
    · refine (rundo_high h0 h1).mono ?_
      rintro r w' ⟨rfl, hB⟩
      unfold unH; rw [if_neg (by omega), decide_eq_false (by omega)]; exact ⟨rfl, hB⟩

theorem rnew_walk {k : Nat} {v : Int} (hk : k ≤ 65536) : Calls Try.prog 56 [.int .i64 (k : Int), .int .i64 v].toArray w0 (fun r w' => ∃ AL cL, ∃ q : IRow, q.xs = List.replicate k v ∧ r = .returned (.agg #[.slice AL 1 cL]) ∧ St [] w0 w' [.row (.slice AL 1 cL) 32 1 1 (hdrs [q]), .row (.slice q.A q.xs.length q.c) 3 1 q.xs.length (ints q.xs)]) := by
  have S := St.nil [] w0
  refine fn_start Try.func56 rfl 19 rfl rfl [(0, _), (1, _)] ⟨rfl, rfl, trivial⟩ ?_; intro a E
  refine wp_seq ?_
  refine region_plain (n := 1) [(0, .e)] rfl rfl ?_
  refine Run.alloc rfl rfl E S rfl rfl z80 rfl ?_; clear E a S; intro b1 w a E S B_; clear B_
  refine Run.nil ?_
  refine then_n ?_
  refine wp_seq ?_
  refine region_plain (n := 1) [(0, .p)] rfl rfl ?_
  refine Run.assign rfl E rfl rfl rfl ?_; clear E a; intro a E
  refine Run.nil ?_
  refine then_n ?_
  refine wp_seq ?_
  refine wp_seq ?_
  refine region_plain (n := 1) [(0, .p)] rfl rfl ?_
  refine Run.assign rfl E rfl rfl rfl ?_; clear E a; intro a E
  refine Run.nil ?_
  refine then_n ?_
  refine wp_block ?_
  replace S := S.addNil 3 1
  refine wp_loop_ghost (fun n_ a w => ∃ i : Nat, ∃ A : Option Addr, ∃ e : Nat, k - i = n_ ∧ Env 19 [(0, .int .i64 (k : Int)), (1, .int .i64 v), (4, .pointer (some ⟨b1, 0, none⟩)), (5, .slice A i e), (6, .int .i64 (i : Int))] a ∧ St _ _ w [.row (.slice A i e) 3 1 i (ints (List.replicate i v)), .obj b1 80 [.slice none 0 0]] ∧ (i ≤ k)) _ ⟨0, none, 0, rfl, E.keeps [(0, _), (1, _), (4, _), (5, _), (6, _)] ⟨rfl, rfl, rfl, rfl, rfl, trivial⟩, S, Nat.zero_le _⟩ ?_
  clear E a S
  rintro n_ a w ⟨i, A, e, rfl, E, S, hi⟩
  refine wp_seq ?_
  refine wp_seq ?_
  refine region_plain (n := 3) [(0, .p), (1, .p), (2, .p)] rfl rfl ?_
  refine Run.move rfl E rfl rfl rfl ?_; clear E a; intro a E
  refine Run.move rfl E rfl rfl rfl ?_; clear E a; intro a E
  by_cases hlt : i < k
  · skip
    refine Run.lss rfl E rfl rfl rfl rfl (decide_eq_true (by omega)) ?_; clear E a; intro a E
    refine Run.nil ?_
    refine then_n ?_
    refine cond_T E rfl ?_
    refine wp_skip ?_
    refine then_n ?_
    refine wp_seq ?_
    refine wp_block ?_
    refine region_plain (n := 5) [(0, .p), (1, .p), (2, .e), (3, .l), (4, .p)] rfl rfl ?_
    refine Run.move rfl E rfl rfl rfl ?_; clear E a; intro a E
    refine Run.move rfl E rfl rfl rfl ?_; clear E a; intro a E
    refine Run.buildSlice (cs := [.int .i64 v]) [(0, .int .i64 v)] rfl rfl E S rfl rfl rfl Try.underlying32 (by kernel_rfl) ?_; clear E a S; intro b2 w a E S B_; clear B_
    refine Run.append (news := [.int .i64 v]) (nm := i + 1) 1 rfl E S rfl rfl rfl rfl rfl Try.underlying32 I3 rfl rfl rfl (objNews S 0 rfl) (by simp [Value.oneCell']) (by omega) (by omega) (by omega) ?_; clear E a S; intro A3 c4 w a E S
    replace S : St _ _ _ [.obj _ _ [_], _, .obj _ _ [_]] := S
    refine Run.assign rfl E rfl rfl rfl ?_; clear E a; intro a E
    refine Run.nil ?_
    refine blk_n ?_
    refine then_n ?_
    refine region_plain (n := 3) [(0, .p), (1, .p), (2, .p)] rfl rfl ?_
    refine Run.move rfl E rfl rfl rfl ?_; clear E a; intro a E
    refine Run.add rfl E rfl rfl rfl rfl (i64_ok (by omega)) ?_; clear E a; intro a E
    refine Run.assign rfl E rfl rfl rfl ?_; clear E a; intro a E
    refine Run.nil ?_
    refine then_n ?_
    replace E := E.setv 6 rfl (show Value.int .i64 ((i : Int) + 1) = .int .i64 ((i + 1 : Nat) : Int) from rfl)
    rw [ints_rep] at S
    have S : St _ _ _ [_, _, _] := S.sel [0, 1, 2] _ rfl rfl
    have S := S.drop1
    exact ⟨_, (by omega), (i + 1), A3, c4, rfl, E.keeps [(0, _), (1, _), (4, _), (5, _), (6, _)] ⟨rfl, rfl, rfl, rfl, rfl, trivial⟩, S, (by omega)⟩
  · skip
    refine Run.lss rfl E rfl rfl rfl rfl (decide_eq_false (by omega)) ?_; clear E a; intro a E
    refine Run.nil ?_
    refine then_n ?_
    refine cond_F E rfl ?_
    refine wp_exit ?_
    refine then_x ?_
    refine then_x ?_
    refine blk_x ?_
    refine then_n ?_
    refine wp_seq ?_
    refine region_plain (n := 4) [(0, .p), (1, .e), (2, .p), (3, .l)] rfl rfl ?_
    refine Run.move rfl E rfl rfl rfl ?_; clear E a; intro a E
    refine Run.buildSlice (cs := [.slice A i e]) [(0, .slice A i e)] rfl rfl E S rfl rfl rfl Try.underlying78 (by kernel_rfl) ?_; clear E a S; intro b5 w a E S B_; clear B_
    refine Run.build (cs := #[.slice (some ⟨b5, 0, none⟩) 1 1]) [(0, .slice (some ⟨b5, 0, none⟩) 1 1)] rfl E rfl rfl rfl (by kernel_rfl) ?_; clear E a; intro a E
    refine Run.store (news := [.slice (some ⟨b5, 0, none⟩) 1 1]) (cs' := [_]) (hp' := [_, _, _]) 2 rfl E S rfl rfl rfl rfl rfl sz80 rfl rfl rfl rfl ?_; clear S; intro w S
    refine Run.nil ?_
    refine then_n ?_
    refine wp_ret ?_
    obtain rfl : i = k := by omega
    have el : (List.replicate i v).length = i := by simp
    refine retN E (vs := [.agg #[.slice (some ⟨b5, 0, none⟩) 1 1]]) Try.results56 (.cell (E.slot _ _ rfl) (run_loadVarAgg ag80 rfl (objAll S 2 rfl)) .nil) rfl ⟨some ⟨b5, 0, none⟩, 1, ⟨A, e, List.replicate i v⟩, rfl, rfl, ?_⟩
    have S : St _ _ _ [_, _, _] := S.sel [2, 0, 1] _ rfl rfl
    have S := S.drop1
    have S := S.objRow (sz := 1) (n := 1) 0 rfl rfl (by decide) rfl
    show St _ _ _ [.row (.slice (some ⟨b5, 0, none⟩) 1 1) 32 1 1 [.slice A (List.replicate i v).length e], .row (.slice A (List.replicate i v).length e) 3 1 (List.replicate i v).length (ints (List.replicate i v))]
    rw [el]; exact S

theorem rset_low {i x : Int} (HA : Rd w0 AL H.length 1 (hdrs H)) (hq : H[H.length - 1]? = some q) (hl : H.length ≤ 65537) (h : i < 0) : Calls Try.prog 57 [.agg #[.slice AL H.length cL], .int .i64 i, .int .i64 x].toArray w0 (fun r w' => r = .returned (.tuple #[.agg #[.slice AL H.length cL], .bool false]) ∧ Bel w0 w') := by
  have S := St.nil [] w0
  refine fn_start Try.func57 rfl 46 rfl rfl [(0, _), (1, _), (2, _)] ⟨rfl, rfl, rfl, trivial⟩ ?_; intro a E
  refine wp_seq ?_
  refine region_plain (n := 3) [(0, .e), (1, .e), (2, .p)] rfl rfl ?_
  refine Run.box (cs := [.slice AL H.length cL]) rfl rfl E S rfl rfl rfl rfl ?_; clear E a S; intro b1 w a E S B_; clear B_
  refine Run.alloc rfl rfl E S rfl rfl z80 rfl ?_; clear E a S; intro b2 w a E S B_; clear B_
  refine Run.assign rfl E rfl rfl rfl ?_; clear E a; intro a E
  refine Run.nil ?_
  refine then_n ?_
  refine wp_seq ?_
  refine region_plain (n := 3) [(0, .l), (1, .e), (2, .p)] rfl rfl ?_
  refine Run.loadN (cs := [.slice AL H.length cL]) rfl rfl E S rfl rfl rfl ag80 rfl (fun _ s => objAll s 1 rfl) ?_; clear E a; intro a E
  refine Run.call (args := [.agg #[.slice AL H.length cL]]) rfl rfl E rfl rfl Try.func60 nm60 rfl rfl (rnow_walk (H := H) (HA.bel S.belT) hq hl) ?_; rintro e_ w ⟨rfl, B_⟩; refine ⟨_, rfl, fun _ => B_, ?_⟩; clear E a; replace S := S.bel B_; intro a E
  clear B_
  refine Run.assign rfl E rfl rfl rfl ?_; clear E a; intro a E
  refine Run.nil ?_
  refine then_n ?_
  refine wp_seq ?_
  refine wp_seq ?_
  refine region_plain (n := 8) [(0, .p), (1, .p), (2, .p), (3, .p), (4, .p), (5, .p), (6, .p), (7, .p)] rfl rfl ?_
  refine Run.move rfl E rfl rfl rfl ?_; clear E a; intro a E
  refine Run.lss rfl E rfl rfl rfl rfl (decide_eq_true (by omega)) ?_; clear E a; intro a E
  refine Run.move rfl E rfl rfl rfl ?_; clear E a; intro a E
  refine Run.off rfl E rfl rfl ?_; clear E a; intro a E
  refine Run.off rfl E rfl rfl ?_; clear E a; intro a E
  refine Run.off rfl E rfl rfl ?_; clear E a; intro a E
  refine Run.off rfl E rfl rfl ?_; clear E a; intro a E
  refine Run.pickT rfl E rfl rfl rfl rfl ?_; clear E a; intro a E
  refine Run.nil ?_
  refine then_n ?_
  refine cond_T E rfl ?_
  refine wp_seq ?_
  refine region_plain (n := 3) [(0, .l), (1, .l), (2, .p)] rfl rfl ?_
  refine Run.loadN (cs := [.slice AL H.length cL]) rfl rfl E S rfl rfl rfl ag80 rfl (fun _ s => objAll s 1 rfl) ?_; clear E a; intro a E
  refine Run.store (news := [.slice AL H.length cL]) (cs' := [_]) (hp' := [_, _]) 0 rfl E S rfl rfl rfl rfl rfl sz80 rfl rfl rfl rfl ?_; clear S; intro w S
  refine Run.assign rfl E rfl rfl rfl ?_; clear E a; intro a E
  refine Run.nil ?_
  refine then_n ?_
  refine wp_ret ?_
  refine then_r ?_
  exact retN E (vs := [.agg #[.slice AL H.length cL], .bool false]) Try.results57 (.cell (E.slot _ _ rfl) (run_loadVarAgg ag80 rfl (objAll S 0 rfl)) (.tmp (E.slot _ _ rfl) .nil)) rfl ⟨rfl, S.belT⟩

theorem rset_high {i x : Int} (HA : Rd w0 AL H.length 1 (hdrs H)) (hq : H[H.length - 1]? = some q) (hl : H.length ≤ 65537) (h0 : 0 ≤ i) (h : (q.xs.length : Int) ≤ i) : Calls Try.prog 57 [.agg #[.slice AL H.length cL], .int .i64 i, .int .i64 x].toArray w0 (fun r w' => r = .returned (.tuple #[.agg #[.slice AL H.length cL], .bool false]) ∧ Bel w0 w') := by
  have S := St.nil [] w0
  refine fn_start Try.func57 rfl 46 rfl rfl [(0, _), (1, _), (2, _)] ⟨rfl, rfl, rfl, trivial⟩ ?_; intro a E
  refine wp_seq ?_
  refine region_plain (n := 3) [(0, .e), (1, .e), (2, .p)] rfl rfl ?_
  refine Run.box (cs := [.slice AL H.length cL]) rfl rfl E S rfl rfl rfl rfl ?_; clear E a S; intro b1 w a E S B_; clear B_
  refine Run.alloc rfl rfl E S rfl rfl z80 rfl ?_; clear E a S; intro b2 w a E S B_; clear B_
  refine Run.assign rfl E rfl rfl rfl ?_; clear E a; intro a E
  refine Run.nil ?_
  refine then_n ?_
  refine wp_seq ?_
  refine region_plain (n := 3) [(0, .l), (1, .e), (2, .p)] rfl rfl ?_
  refine Run.loadN (cs := [.slice AL H.length cL]) rfl rfl E S rfl rfl rfl ag80 rfl (fun _ s => objAll s 1 rfl) ?_; clear E a; intro a E
  refine Run.call (args := [.agg #[.slice AL H.length cL]]) rfl rfl E rfl rfl Try.func60 nm60 rfl rfl (rnow_walk (H := H) (HA.bel S.belT) hq hl) ?_; rintro e_ w ⟨rfl, B_⟩; refine ⟨_, rfl, fun _ => B_, ?_⟩; clear E a; replace S := S.bel B_; intro a E
  clear B_
  refine Run.assign rfl E rfl rfl rfl ?_; clear E a; intro a E
  refine Run.nil ?_
  refine then_n ?_
  refine wp_seq ?_
  refine wp_seq ?_
  refine region_plain (n := 8) [(0, .p), (1, .p), (2, .p), (3, .p), (4, .p), (5, .p), (6, .p), (7, .p)] rfl rfl ?_
  refine Run.move rfl E rfl rfl rfl ?_; clear E a; intro a E
  refine Run.lss rfl E rfl rfl rfl rfl (decide_eq_false (by omega)) ?_; clear E a; intro a E
  refine Run.move rfl E rfl rfl rfl ?_; clear E a; intro a E
  refine Run.move rfl E rfl rfl rfl ?_; clear E a; intro a E
  refine Run.move rfl E rfl rfl rfl ?_; clear E a; intro a E
  refine Run.len rfl E rfl rfl rfl Try.underlying32 ?_; clear E a; intro a E
  refine Run.geq rfl E rfl rfl rfl rfl (decide_eq_true (by omega)) ?_; clear E a; intro a E
  refine Run.pickF rfl E rfl rfl rfl rfl ?_; clear E a; intro a E
  refine Run.nil ?_
  refine then_n ?_
  refine cond_T E rfl ?_
  refine wp_seq ?_
  refine region_plain (n := 3) [(0, .l), (1, .l), (2, .p)] rfl rfl ?_
  refine Run.loadN (cs := [.slice AL H.length cL]) rfl rfl E S rfl rfl rfl ag80 rfl (fun _ s => objAll s 1 rfl) ?_; clear E a; intro a E
  refine Run.store (news := [.slice AL H.length cL]) (cs' := [_]) (hp' := [_, _]) 0 rfl E S rfl rfl rfl rfl rfl sz80 rfl rfl rfl rfl ?_; clear S; intro w S
  refine Run.assign rfl E rfl rfl rfl ?_; clear E a; intro a E
  refine Run.nil ?_
  refine then_n ?_
  refine wp_ret ?_
  refine then_r ?_
  exact retN E (vs := [.agg #[.slice AL H.length cL], .bool false]) Try.results57 (.cell (E.slot _ _ rfl) (run_loadVarAgg ag80 rfl (objAll S 0 rfl)) (.tmp (E.slot _ _ rfl) .nil)) rfl ⟨rfl, S.belT⟩

theorem rset_same {k : Nat} {x y : Int} (HA : Rd w0 AL H.length 1 (hdrs H)) (hq : H[H.length - 1]? = some q) (hl : H.length ≤ 65537) (HQ : Rd w0 q.A q.xs.length 1 (ints q.xs)) (hk : q.xs[k]? = some y) (hx : q.xs.length ≤ 65536) (e : y = x) : Calls Try.prog 57 [.agg #[.slice AL H.length cL], .int .i64 (k : Int), .int .i64 x].toArray w0 (fun r w' => r = .returned (.tuple #[.agg #[.slice AL H.length cL], .bool true]) ∧ Bel w0 w') := by
  have S := St.nil [] w0
  obtain ⟨qA, qc, qxs⟩ := q
  dsimp only at hk hx HQ
  have hkl : k < qxs.length := (List.getElem?_eq_some_iff.1 hk).1
  obtain ⟨bQ, oQ, rfl, hQ⟩ := HQ.place (by omega)
  refine fn_start Try.func57 rfl 46 rfl rfl [(0, _), (1, _), (2, _)] ⟨rfl, rfl, rfl, trivial⟩ ?_; intro a E
  refine wp_seq ?_
  refine region_plain (n := 3) [(0, .e), (1, .e), (2, .p)] rfl rfl ?_
  refine Run.box (cs := [.slice AL H.length cL]) rfl rfl E S rfl rfl rfl rfl ?_; clear E a S; intro b1 w a E S B_; clear B_
  refine Run.alloc rfl rfl E S rfl rfl z80 rfl ?_; clear E a S; intro b2 w a E S B_; clear B_
  refine Run.assign rfl E rfl rfl rfl ?_; clear E a; intro a E
  refine Run.nil ?_
  refine then_n ?_
  refine wp_seq ?_
  refine region_plain (n := 3) [(0, .l), (1, .e), (2, .p)] rfl rfl ?_
  refine Run.loadN (cs := [.slice AL H.length cL]) rfl rfl E S rfl rfl rfl ag80 rfl (fun _ s => objAll s 1 rfl) ?_; clear E a; intro a E
  refine Run.call (args := [.agg #[.slice AL H.length cL]]) rfl rfl E rfl rfl Try.func60 nm60 rfl rfl (rnow_walk (H := H) (HA.bel S.belT) hq hl) ?_; rintro e_ w ⟨rfl, B_⟩; refine ⟨_, rfl, fun _ => B_, ?_⟩; clear E a; replace S := S.bel B_; intro a E
  dsimp only at E
  clear B_
  refine Run.assign rfl E rfl rfl rfl ?_; clear E a; intro a E
  refine Run.nil ?_
  refine then_n ?_
  refine wp_seq ?_
  refine wp_seq ?_
  refine region_plain (n := 8) [(0, .p), (1, .p), (2, .p), (3, .p), (4, .p), (5, .p), (6, .p), (7, .p)] rfl rfl ?_
  refine Run.move rfl E rfl rfl rfl ?_; clear E a; intro a E
  refine Run.lss rfl E rfl rfl rfl rfl (decide_eq_false (by omega)) ?_; clear E a; intro a E
  refine Run.move rfl E rfl rfl rfl ?_; clear E a; intro a E
  refine Run.move rfl E rfl rfl rfl ?_; clear E a; intro a E
  refine Run.move rfl E rfl rfl rfl ?_; clear E a; intro a E
  refine Run.len rfl E rfl rfl rfl Try.underlying32 ?_; clear E a; intro a E
  refine Run.geq rfl E rfl rfl rfl rfl (decide_eq_false (by omega)) ?_; clear E a; intro a E
  refine Run.pickF rfl E rfl rfl rfl rfl ?_; clear E a; intro a E
  refine Run.nil ?_
  refine then_n ?_
  refine cond_F E rfl ?_
  refine wp_skip ?_
  refine then_n ?_
  refine wp_seq ?_
  refine wp_seq ?_
  refine region_plain (n := 6) [(0, .p), (1, .p), (2, .p), (3, .l), (4, .p), (5, .p)] rfl rfl ?_
  refine Run.move rfl E rfl rfl rfl ?_; clear E a; intro a E
  refine Run.move rfl E rfl rfl rfl ?_; clear E a; intro a E
  refine Run.indexAddr rfl E rfl rfl rfl rfl Try.underlying32 sz3 (by omega) (ix_at1 (m' := k) (by omega)) ?_; clear E a; intro a E
  refine Run.load1 rfl rfl E S rfl rfl rfl one3 (fun _ s_ => rdAt1 hQ s_ (ints_get' (hk))) ?_; clear E a; intro a E
  refine Run.move rfl E rfl rfl rfl ?_; clear E a; intro a E
  refine Run.eqi rfl E rfl rfl rfl rfl (decide_eq_true (e)) ?_; clear E a; intro a E
  refine Run.nil ?_
  refine then_n ?_
  refine cond_T E rfl ?_
  refine wp_seq ?_
  refine region_plain (n := 3) [(0, .l), (1, .l), (2, .p)] rfl rfl ?_
  refine Run.loadN (cs := [.slice AL H.length cL]) rfl rfl E S rfl rfl rfl ag80 rfl (fun _ s => objAll s 1 rfl) ?_; clear E a; intro a E
  refine Run.store (news := [.slice AL H.length cL]) (cs' := [_]) (hp' := [_, _]) 0 rfl E S rfl rfl rfl rfl rfl sz80 rfl rfl rfl rfl ?_; clear S; intro w S
  refine Run.assign rfl E rfl rfl rfl ?_; clear E a; intro a E
  refine Run.nil ?_
  refine then_n ?_
  refine wp_ret ?_
  refine then_r ?_
  exact retN E (vs := [.agg #[.slice AL H.length cL], .bool true]) Try.results57 (.cell (E.slot _ _ rfl) (run_loadVarAgg ag80 rfl (objAll S 0 rfl)) (.tmp (E.slot _ _ rfl) .nil)) rfl ⟨rfl, S.belT⟩

theorem rset_new {k : Nat} {x y : Int} (HA : Rd w0 AL H.length 1 (hdrs H)) (hq : H[H.length - 1]? = some q) (hl : H.length ≤ 65537) (HQ : Rd w0 q.A q.xs.length 1 (ints q.xs)) (hk : q.xs[k]? = some y) (hx : q.xs.length ≤ 65536) (e : ¬ y = x) : Calls Try.prog 57 [.agg #[.slice AL H.length cL], .int .i64 (k : Int), .int .i64 x].toArray w0 (fun r w' => ∃ AL' cL', ∃ p : IRow, p.xs = q.xs.set k x ∧ r = .returned (.tuple #[.agg #[.slice AL' (H.length + 1) cL'], .bool true]) ∧ St [] w0 w' [.row (.slice AL' (H.length + 1) cL') 32 1 (H.length + 1) (hdrs (H ++ [p])), .row (.slice p.A p.xs.length p.c) 3 1 p.xs.length (ints p.xs)]) := by
  have S := St.nil [] w0
  obtain ⟨qA, qc, qxs⟩ := q
  dsimp only at hk hx HQ
  have hkl : k < qxs.length := (List.getElem?_eq_some_iff.1 hk).1
  obtain ⟨bQ, oQ, rfl, hQ⟩ := HQ.place (by omega)
  refine fn_start Try.func57 rfl 46 rfl rfl [(0, _), (1, _), (2, _)] ⟨rfl, rfl, rfl, trivial⟩ ?_; intro a E
  refine wp_seq ?_
  refine region_plain (n := 3) [(0, .e), (1, .e), (2, .p)] rfl rfl ?_
  refine Run.box (cs := [.slice AL H.length cL]) rfl rfl E S rfl rfl rfl rfl ?_; clear E a S; intro b1 w a E S B_; clear B_
  refine Run.alloc rfl rfl E S rfl rfl z80 rfl ?_; clear E a S; intro b2 w a E S B_; clear B_
  refine Run.assign rfl E rfl rfl rfl ?_; clear E a; intro a E
  refine Run.nil ?_
  refine then_n ?_
  refine wp_seq ?_
  refine region_plain (n := 3) [(0, .l), (1, .e), (2, .p)] rfl rfl ?_
  refine Run.loadN (cs := [.slice AL H.length cL]) rfl rfl E S rfl rfl rfl ag80 rfl (fun _ s => objAll s 1 rfl) ?_; clear E a; intro a E
  refine Run.call (args := [.agg #[.slice AL H.length cL]]) rfl rfl E rfl rfl Try.func60 nm60 rfl rfl (rnow_walk (H := H) (HA.bel S.belT) hq hl) ?_; rintro e_ w ⟨rfl, B_⟩; refine ⟨_, rfl, fun _ => B_, ?_⟩; clear E a; replace S := S.bel B_; intro a E
  dsimp only at E
  clear B_
  refine Run.assign rfl E rfl rfl rfl ?_; clear E a; intro a E
  refine Run.nil ?_
  refine then_n ?_
  refine wp_seq ?_
  refine wp_seq ?_
  refine region_plain (n := 8) [(0, .p), (1, .p), (2, .p), (3, .p), (4, .p), (5, .p), (6, .p), (7, .p)] rfl rfl ?_
  refine Run.move rfl E rfl rfl rfl ?_; clear E a; intro a E
  refine Run.lss rfl E rfl rfl rfl rfl (decide_eq_false (by omega)) ?_; clear E a; intro a E
  refine Run.move rfl E rfl rfl rfl ?_; clear E a; intro a E
  refine Run.move rfl E rfl rfl rfl ?_; clear E a; intro a E
  refine Run.move rfl E rfl rfl rfl ?_; clear E a; intro a E
  refine Run.len rfl E rfl rfl rfl Try.underlying32 ?_; clear E a; intro a E
  refine Run.geq rfl E rfl rfl rfl rfl (decide_eq_false (by omega)) ?_; clear E a; intro a E
  refine Run.pickF rfl E rfl rfl rfl rfl ?_; clear E a; intro a E
  refine Run.nil ?_
  refine then_n ?_
  refine cond_F E rfl ?_
  refine wp_skip ?_
  refine then_n ?_
  refine wp_seq ?_
  refine wp_seq ?_
  refine region_plain (n := 6) [(0, .p), (1, .p), (2, .p), (3, .l), (4, .p), (5, .p)] rfl rfl ?_
  refine Run.move rfl E rfl rfl rfl ?_; clear E a; intro a E
  refine Run.move rfl E rfl rfl rfl ?_; clear E a; intro a E
  refine Run.indexAddr rfl E rfl rfl rfl rfl Try.underlying32 sz3 (by omega) (ix_at1 (m' := k) (by omega)) ?_; clear E a; intro a E
  refine Run.load1 rfl rfl E S rfl rfl rfl one3 (fun _ s_ => rdAt1 hQ s_ (ints_get' (hk))) ?_; clear E a; intro a E
  refine Run.move rfl E rfl rfl rfl ?_; clear E a; intro a E
  refine Run.eqi rfl E rfl rfl rfl rfl (decide_eq_false (e)) ?_; clear E a; intro a E
  refine Run.nil ?_
  refine then_n ?_
  refine cond_F E rfl ?_
  refine wp_skip ?_
  refine then_n ?_
  refine wp_seq ?_
  refine region_plain (n := 1) [(0, .p)] rfl rfl ?_
  refine Run.assign rfl E rfl rfl rfl ?_; clear E a; intro a E
  refine Run.nil ?_
  refine then_n ?_
  refine wp_seq ?_
  refine region_plain (n := 4) [(0, .p), (1, .p), (2, .l), (3, .p)] rfl rfl ?_
  refine Run.move rfl E rfl rfl rfl ?_; clear E a; intro a E
  refine Run.move rfl E rfl rfl rfl ?_; clear E a; intro a E
  replace S := S.addNil 3 1
  refine Run.appendE (news := ints qxs) 0 rfl rfl E S rfl rfl rfl rfl rfl Try.underlying32 I3 rfl rfl (HQ.bel S.belT) (ints_one _) (by omega) (by omega) ?_; clear E a S; intro A3 c4 w a E S B_; clear B_
  replace S : St _ _ _ [_, .obj _ _ [_], .obj _ _ [_]] := S
  refine Run.assign rfl E rfl rfl rfl ?_; clear E a; intro a E
  refine Run.nil ?_
  refine then_n ?_
  refine wp_seq ?_
  refine region_plain (n := 5) [(0, .p), (1, .p), (2, .p), (3, .p), (4, .l)] rfl rfl ?_
  refine Run.move rfl E rfl rfl rfl ?_; clear E a; intro a E
  refine Run.move rfl E rfl rfl rfl ?_; clear E a; intro a E
  refine Run.move rfl E rfl rfl rfl ?_; clear E a; intro a E
  obtain ⟨bM, rfl⟩ := S.rowAddr 0 rfl (by omega)
  refine Run.indexAddr rfl E rfl rfl rfl rfl Try.underlying32 sz3 (by omega) (ix_at (m' := k) (o := k) (by omega) (Nat.mul_one _)) ?_; clear E a; intro a E
  refine Run.storeRow (hp' := [_, _, _]) 0 rfl E S rfl rfl rfl rfl (by rw [ints_len]; omega) sz3 rfl rfl ?_; clear S; intro w S
  refine Run.nil ?_
  refine then_n ?_
  refine wp_seq ?_
  refine region_plain (n := 1) [(0, .p)] rfl rfl ?_
  refine Run.assign rfl E rfl rfl rfl ?_; clear E a; intro a E
  refine Run.nil ?_
  refine then_n ?_
  refine wp_seq ?_
  refine region_plain (n := 5) [(0, .p), (1, .p), (2, .l), (3, .l), (4, .p)] rfl rfl ?_
  refine Run.move rfl E rfl rfl rfl ?_; clear E a; intro a E
  refine Run.fieldAddr rfl E rfl rfl rfl fo80_0 (rfl) ?_; clear E a; intro a E
  refine Run.load1 rfl rfl E S rfl rfl rfl one78 (fun _ s => s.objCell 2 0 rfl rfl) ?_; clear E a; intro a E
  replace S := S.addNil 32 1
  refine Run.appendE (news := hdrs H) 0 rfl rfl E S rfl rfl rfl rfl rfl Try.underlying78 I32 rfl rfl (HA.bel S.belT) (hdrs_one _) (by omega) (by omega) ?_; clear E a S; intro A5 c6 w a E S B_; clear B_
  replace S : St _ _ _ [_, _, .obj _ _ [_], .obj _ _ [_]] := S
  refine Run.assign rfl E rfl rfl rfl ?_; clear E a; intro a E
  refine Run.nil ?_
  refine then_n ?_
  refine wp_seq ?_
  refine region_plain (n := 6) [(0, .p), (1, .p), (2, .e), (3, .l), (4, .p), (5, .l)] rfl rfl ?_
  refine Run.move rfl E rfl rfl rfl ?_; clear E a; intro a E
  refine Run.move rfl E rfl rfl rfl ?_; clear E a; intro a E
  refine Run.buildSlice (cs := [.slice (some ⟨bM, 0, none⟩) qxs.length c4]) [(0, .slice (some ⟨bM, 0, none⟩) qxs.length c4)] rfl rfl E S rfl rfl rfl Try.underlying78 (by kernel_rfl) ?_; clear E a S; intro b7 w a E S B_; clear B_
  refine Run.append (news := [.slice (some ⟨bM, 0, none⟩) qxs.length c4]) (nm := H.length + 1) 1 rfl E S rfl rfl rfl rfl rfl Try.underlying78 I32 rfl rfl rfl (objNews S 0 rfl) (by simp [Value.oneCell']) (by omega) (by omega) (by omega) ?_; clear E a S; intro A8 c9 w a E S
  replace S : St _ _ _ [.obj _ _ [_], _, _, .obj _ _ [_], .obj _ _ [_]] := S
  refine Run.fieldAddr rfl E rfl rfl rfl fo80_0 (rfl) ?_; clear E a; intro a E
  refine Run.store (news := [.slice A8 (H.length + 1) c9]) (cs' := [_]) (hp' := [_, _, _, _, _]) 4 rfl E S rfl rfl rfl rfl rfl sz78 rfl rfl rfl rfl ?_; clear S; intro w S
  refine Run.nil ?_
  refine then_n ?_
  refine wp_seq ?_
  refine region_plain (n := 3) [(0, .l), (1, .l), (2, .p)] rfl rfl ?_
  refine Run.loadN (cs := [.slice A8 (H.length + 1) c9]) rfl rfl E S rfl rfl rfl ag80 rfl (fun _ s => objAll s 4 rfl) ?_; clear E a; intro a E
  refine Run.store (news := [.slice A8 (H.length + 1) c9]) (cs' := [_]) (hp' := [_, _, _, _, _]) 3 rfl E S rfl rfl rfl rfl rfl sz80 rfl rfl rfl rfl ?_; clear S; intro w S
  refine Run.assign rfl E rfl rfl rfl ?_; clear E a; intro a E
  refine Run.nil ?_
  refine then_n ?_
  refine wp_ret ?_
  have el : (qxs.set k x).length = qxs.length := by simp
  have es : (ints qxs).set k (.int .i64 x) = ints (qxs.set k x) := by simp [ints, List.map_set]
  rw [es] at S
  refine retN E (vs := [.agg #[.slice A8 (H.length + 1) c9], .bool true]) Try.results57 (.cell (E.slot _ _ rfl) (run_loadVarAgg ag80 rfl (objAll S 3 rfl)) (.tmp (E.slot _ _ rfl) .nil)) rfl ⟨A8, c9, ⟨some ⟨bM, 0, none⟩, c4, qxs.set k x⟩, rfl, rfl, ?_⟩
  have S : St _ _ _ [_, _, _, _, _] := S.sel [0, 3, 4, 1, 2] _ rfl rfl
  have S := S.drop1.drop1.drop1
  rw [← hdrs_snoc]
  show St _ _ _ [.row (.slice A8 (H.length + 1) c9) 32 1 (H.length + 1) (hdrs H ++ [.slice (some ⟨bM, 0, none⟩) (qxs.set k x).length c4]), .row (.slice (some ⟨bM, 0, none⟩) (qxs.set k x).length c4) 3 1 (qxs.set k x).length (ints (qxs.set k x))]
  rw [el]; exact S

theorem unH_take (H : List IRow) (m : Int) : H.take (unH H m).length = unH H m := by
  unfold unH; split
  · rw [List.length_take, ← List.take_take, List.take_length]
  · exact List.take_length
theorem unH_sub (H : List IRow) (m : Int) : (unH H m).Sublist H := by
  unfold unH; split
  · exact List.take_sublist _ _
  · exact List.Sublist.refl _
theorem unH_le (H : List IRow) (m : Int) : (unH H m).length ≤ H.length := (unH_sub H m).length_le

set_option maxHeartbeats 4000000 in
theorem undoPlays_mid {A : Option Addr} {c k : Nat} {v : Int} {ops : List Stp} (H1 : Rd w0 A ops.length 3 (stps ops)) (hk : k ≤ 65536) : Calls Try.prog 11 [.int .i64 (k : Int), .int .i64 v, .slice A ops.length c].toArray w0 (fun r w' => r = .returned (.bool true) ∧ Bel w0 w') := by
  have S := St.nil [] w0
  refine fn_start Try.func11 rfl 154 rfl rfl [(0, _), (1, _), (2, _)] ⟨rfl, rfl, rfl, trivial⟩ ?_; intro a E
  refine wp_seq ?_
  refine region_plain (n := 1) [(0, .p)] rfl rfl ?_
  refine Run.assign rfl E rfl rfl rfl ?_; clear E a; intro a E
  refine Run.nil ?_
  refine then_n ?_
  refine wp_seq ?_
  refine wp_seq ?_
  refine region_plain (n := 2) [(0, .e), (1, .p)] rfl rfl ?_
  refine Run.call (args := []) rfl rfl E rfl rfl Try.func48 nm48 rfl rfl (anchor15) ?_; rintro e_ w ⟨rfl, B_⟩; refine ⟨_, rfl, fun _ => B_, ?_⟩; clear E a; replace S := S.bel B_; intro a E
  clear B_
  refine Run.not rfl E rfl rfl rfl rfl ?_; clear E a; intro a E
  refine Run.nil ?_
  refine then_n ?_
  refine cond_F E rfl ?_
  refine wp_skip ?_
  refine then_n ?_
  refine wp_seq ?_
  refine region_plain (n := 8) [(0, .p), (1, .p), (2, .e), (3, .p), (4, .p), (5, .p), (6, .p), (7, .p)] rfl rfl ?_
  refine Run.move rfl E rfl rfl rfl ?_; clear E a; intro a E
  refine Run.move rfl E rfl rfl rfl ?_; clear E a; intro a E
  refine Run.call (args := [.int .i64 (k : Int), .int .i64 v]) rfl rfl E rfl rfl Try.func49 nm49 rfl rfl (un_new (k := k) (v := v) hk) ?_; rintro e_ w ⟨g1, A2, c3, rfl, S_⟩; refine ⟨_, rfl, (fun _ => S_.belT), ?_⟩; clear E a; intro a E
  replace S : St _ _ _ [.obj _ _ [_, _], _, _] := St.call (A := []) (R := []) S S_; clear S_
  refine Run.move rfl E rfl rfl rfl ?_; clear E a; intro a E
  refine Run.extract rfl E rfl rfl rfl rfl ?_; clear E a; intro a E
  refine Run.extract rfl E rfl rfl rfl rfl ?_; clear E a; intro a E
  refine Run.assign rfl E rfl rfl rfl ?_; clear E a; intro a E
  refine Run.assign rfl E rfl rfl rfl ?_; clear E a; intro a E
  refine Run.nil ?_
  refine then_n ?_
  refine wp_seq ?_
  refine wp_seq ?_
  refine region_plain (n := 6) [(0, .p), (1, .p), (2, .p), (3, .p), (4, .p), (5, .p)] rfl rfl ?_
  refine Run.move rfl E rfl rfl rfl ?_; clear E a; intro a E
  refine Run.lss rfl E rfl rfl rfl rfl (decide_eq_false (by omega)) ?_; clear E a; intro a E
  refine Run.move rfl E rfl rfl rfl ?_; clear E a; intro a E
  refine Run.move rfl E rfl rfl rfl ?_; clear E a; intro a E
  refine Run.gtr rfl E rfl rfl rfl rfl (decide_eq_false (by omega)) ?_; clear E a; intro a E
  refine Run.pickF rfl E rfl rfl rfl rfl ?_; clear E a; intro a E
  refine Run.nil ?_
  refine then_n ?_
  refine cond_F E rfl ?_
  refine wp_skip ?_
  refine then_n ?_
  refine wp_seq ?_
  refine wp_seq ?_
  refine region_plain (n := 6) [(0, .p), (1, .p), (2, .p), (3, .p), (4, .p), (5, .p)] rfl rfl ?_
  refine Run.move rfl E rfl rfl rfl ?_; clear E a; intro a E
  refine Run.nei rfl E rfl rfl rfl rfl (b := false) (by decide) ?_; clear E a; intro a E
  refine Run.move rfl E rfl rfl rfl ?_; clear E a; intro a E
  refine Run.move rfl E rfl rfl rfl ?_; clear E a; intro a E
  refine Run.bin (v := .bool false) rfl E rfl rfl rfl rfl (fun _ => by kernel_rfl) ?_; clear E a; intro a E
  refine Run.pickF rfl E rfl rfl rfl rfl ?_; clear E a; intro a E
  refine Run.nil ?_
  refine then_n ?_
  refine cond_F E rfl ?_
  refine wp_skip ?_
  refine then_n ?_
  refine wp_seq ?_
  refine wp_seq ?_
  refine region_plain (n := 7) [(0, .p), (1, .p), (2, .p), (3, .p), (4, .p), (5, .p), (6, .p)] rfl rfl ?_
  refine Run.move rfl E rfl rfl rfl ?_; clear E a; intro a E
  by_cases hb40 : 40 < (k : Int)
  · skip
    refine Run.gtr rfl E rfl rfl rfl rfl (decide_eq_true (hb40)) ?_; clear E a; intro a E
    refine Run.move rfl E rfl rfl rfl ?_; clear E a; intro a E
    refine Run.off rfl E rfl rfl ?_; clear E a; intro a E
    refine Run.off rfl E rfl rfl ?_; clear E a; intro a E
    refine Run.off rfl E rfl rfl ?_; clear E a; intro a E
    refine Run.pickT rfl E rfl rfl rfl rfl ?_; clear E a; intro a E
    refine Run.nil ?_
    refine then_n ?_
    refine cond_T E rfl ?_
    refine wp_seq ?_
    refine region_plain (n := 1) [(0, .p)] rfl rfl ?_
    refine Run.assign rfl E rfl rfl rfl ?_; clear E a; intro a E
    refine Run.nil ?_
    refine then_n ?_
    refine wp_ret ?_
    refine then_r ?_
    exact ret1 E Try.results11 rfl ⟨rfl, S.belT⟩
  · skip
    refine Run.gtr rfl E rfl rfl rfl rfl (decide_eq_false (hb40)) ?_; clear E a; intro a E
    refine Run.move rfl E rfl rfl rfl ?_; clear E a; intro a E
    refine Run.move rfl E rfl rfl rfl ?_; clear E a; intro a E
    refine Run.len rfl E rfl rfl rfl Try.underlying65 ?_; clear E a; intro a E
    by_cases hb60 : 60 < (ops.length : Int)
    · skip
      refine Run.gtr rfl E rfl rfl rfl rfl (decide_eq_true (hb60)) ?_; clear E a; intro a E
      refine Run.pickF rfl E rfl rfl rfl rfl ?_; clear E a; intro a E
      refine Run.nil ?_
      refine then_n ?_
      refine cond_T E rfl ?_
      refine wp_seq ?_
      refine region_plain (n := 1) [(0, .p)] rfl rfl ?_
      refine Run.assign rfl E rfl rfl rfl ?_; clear E a; intro a E
      refine Run.nil ?_
      refine then_n ?_
      refine wp_ret ?_
      refine then_r ?_
      exact ret1 E Try.results11 rfl ⟨rfl, S.belT⟩
    · skip
      refine Run.gtr rfl E rfl rfl rfl rfl (decide_eq_false (hb60)) ?_; clear E a; intro a E
      refine Run.pickF rfl E rfl rfl rfl rfl ?_; clear E a; intro a E
      refine Run.nil ?_
      refine then_n ?_
      refine cond_F E rfl ?_
      refine wp_skip ?_
      refine then_n ?_
      refine wp_seq ?_
      refine region_plain (n := 5) [(0, .p), (1, .p), (2, .e), (3, .e), (4, .l)] rfl rfl ?_
      refine Run.move rfl E rfl rfl rfl ?_; clear E a; intro a E
      refine Run.move rfl E rfl rfl rfl ?_; clear E a; intro a E
      refine Run.call (args := [.int .i64 (k : Int), .int .i64 v]) rfl rfl E rfl rfl Try.func56 nm56 rfl rfl (rnew_walk (k := k) (v := v) (by omega)) ?_; rintro e_ w ⟨A4, c5, q6, hq0, rfl, S_⟩; refine ⟨_, rfl, (fun _ => S_.belT), ?_⟩; clear E a; intro a E
      replace S : St _ _ _ [_, _, .obj _ _ [_, _], _, _] := St.call (A := []) (R := [_, _, _]) S S_; clear S_
      refine Run.alloc rfl rfl E S rfl rfl z80 rfl ?_; clear E a S; intro b7 w a E S B_; clear B_
      refine Run.store (news := [.slice A4 1 c5]) (cs' := [_]) (hp' := [_, _, _, _, _, _]) 0 rfl E S rfl rfl rfl rfl rfl sz80 rfl rfl rfl rfl ?_; clear S; intro w S
      refine Run.nil ?_
      refine then_n ?_
      refine wp_seq ?_
      refine region_plain (n := 2) [(0, .e), (1, .p)] rfl rfl ?_
      refine Run.buildSlice (cs := [.int .i64 0]) [(0, .int .i64 0)] rfl rfl E S rfl rfl rfl Try.underlying32 (by kernel_rfl) ?_; clear E a S; intro b8 w a E S B_; clear B_
      refine Run.assign rfl E rfl rfl rfl ?_; clear E a; intro a E
      refine Run.nil ?_
      refine then_n ?_
      refine wp_seq ?_
      refine wp_seq ?_
      refine region_plain (n := 3) [(0, .p), (1, .p), (2, .p)] rfl rfl ?_
      refine Run.move rfl E rfl rfl rfl ?_; clear E a; intro a E
      refine Run.len rfl E rfl rfl rfl Try.underlying65 ?_; clear E a; intro a E
      refine Run.move rfl E rfl rfl rfl ?_; clear E a; intro a E
      refine Run.nil ?_
      refine then_n ?_
      refine wp_block ?_
      replace S := S.addRows
      replace S := S.sel [4, 0, 1, 2, 3, 5, 6, 7] [_, _, _, _, _, _, _, _] rfl rfl
      replace S : St _ _ _ [.rows (([] : List IRow) ++ [q6]), _, _, _, _, _, _] := S.rowsSnoc rfl
      replace S : St _ _ _ [_, _, _, _, _, _, _] := S.objRow (sz := 1) (n := 1) 1 rfl rfl (by decide) rfl
      have S : St _ _ _ [_, _, _, _, _, _, _] := S.sel [4, 5, 6, 2, 3, 0, 1] _ rfl rfl
      have hH0 : Hist [q6] (List.replicate k v) ([] : List Note) := ⟨rfl, fun j q hq => by match j, hq with | 0, hq => simp at hq; subst hq; exact hq0⟩
      refine wp_loop_ghost (fun n_ a w => ∃ i : Nat, ∃ now : List Int, ∃ trail : List Note, ∃ B : Option Addr, ∃ d : Nat, ∃ AL : Option Addr, ∃ cL : Nat, ∃ H : List IRow, ∃ marks : List Int, ∃ mA : Option Addr, ∃ mc : Nat, ops.length - i = n_ ∧ Env 154 [(0, .int .i64 (k : Int)), (7, .pointer (some ⟨g1, 0, none⟩)), (9, .pointer (some ⟨b7, 0, none⟩)), (10, .slice mA marks.length mc), (53, .slice A ops.length c), (54, .int .i64 (ops.length : Int)), (55, .int .i64 (i : Int))] a ∧ St _ _ w [.obj g1 136 [.slice A2 now.length c3, .slice B trail.length d], .row (.slice A2 now.length c3) 3 1 now.length (ints now), .row (.slice B trail.length d) 138 2 trail.length (notes trail), .obj b7 80 [.slice AL H.length cL], .row (.slice AL H.length cL) 32 1 H.length (hdrs H), .rows H, .row (.slice mA marks.length mc) 3 1 marks.length (ints marks)] ∧ (i ≤ ops.length) ∧ (now.length = k) ∧ (trail.length ≤ i) ∧ (Ranged k trail) ∧ (Hist H now trail) ∧ (marks.length = i + 1)) _ ⟨0, (List.replicate k v), ([] : List Note), none, 0, A4, c5, [q6], [0], (some ⟨b8, 0, none⟩), 1, rfl, E.keeps [(0, _), (7, _), (9, _), (10, _), (53, _), (54, _), (55, _)] ⟨rfl, rfl, rfl, rfl, rfl, rfl, rfl, trivial⟩, S, Nat.zero_le _, (by simp), (by simp), (fun x hx => by cases hx), hH0, rfl⟩ ?_
      clear E a S
      rintro n_ a w ⟨i, now, trail, B, d, AL, cL, H, marks, mA, mc, rfl, E, S, hil, hnl, htl, hrg, hH, hml⟩
      refine wp_seq ?_
      refine region_plain (n := 1) [(0, .p)] rfl rfl ?_
      by_cases hlt : i < ops.length
      · skip
        obtain ⟨bA, obA, rfl, hbA⟩ := H1.place (by omega)
        obtain ⟨q, hq, hqm, hqx⟩ := hH.last
        have hHl := hH.1
        refine Run.lss rfl E rfl rfl rfl rfl (decide_eq_true (by omega)) ?_; clear E a; intro a E
        refine Run.nil ?_
        refine then_n ?_
        refine wp_seq ?_
        refine cond_T E rfl ?_
        refine wp_skip ?_
        refine then_n ?_
        refine wp_seq ?_
        refine wp_block ?_
        refine wp_seq ?_
        refine region_plain (n := 4) [(0, .p), (1, .l), (2, .e), (3, .l)] rfl rfl ?_
        refine Run.indexAddr rfl E rfl rfl rfl rfl Try.underlying65 sz70 (by omega) (ix_at' (m' := i) (by omega)) ?_; clear E a; intro a E
        refine Run.loadN (cs := [.int .i64 ((ops[i]).kind), .int .i64 ((ops[i]).i), .int .i64 ((ops[i]).x)]) rfl rfl E S rfl rfl rfl ag70 rfl (fun _ s_ => rdAtL hbA s_ _ _ (stps_get (List.getElem?_eq_getElem hlt))) ?_; clear E a; intro a E
        refine Run.alloc rfl rfl E S rfl rfl z70 rfl ?_; clear E a S; intro b9 w a E S B_; clear B_
        refine Run.store (news := [.int .i64 ((ops[i]).kind), .int .i64 ((ops[i]).i), .int .i64 ((ops[i]).x)]) (cs' := [_, _, _]) (hp' := [_, _, _, _, _, _, _, _]) 0 rfl E S rfl rfl rfl rfl rfl sz70 rfl rfl rfl rfl ?_; clear S; intro w S
        refine Run.nil ?_
        refine then_n ?_
        refine wp_seq ?_
        refine region_plain (n := 2) [(0, .p), (1, .p)] rfl rfl ?_
        refine Run.assign rfl E rfl rfl rfl ?_; clear E a; intro a E
        refine Run.assign rfl E rfl rfl rfl ?_; clear E a; intro a E
        refine Run.nil ?_
        refine then_n ?_
        refine wp_mid (fun a w => ∃ now' : List Int, ∃ trail' : List Note, ∃ B' : Option Addr, ∃ d' : Nat, ∃ AL' : Option Addr, ∃ cL' : Nat, ∃ H' : List IRow, ∃ b : Bool, Env 154 [(0, .int .i64 (k : Int)), (7, .pointer (some ⟨g1, 0, none⟩)), (9, .pointer (some ⟨b7, 0, none⟩)), (10, .slice mA marks.length mc), (13, .bool b), (14, .bool b), (53, .slice (some ⟨bA, obA, none⟩) ops.length c), (54, .int .i64 (ops.length : Int)), (55, .int .i64 (i : Int))] a ∧ St [] w0 w [.obj g1 136 [.slice A2 ((now').length) c3, .slice (B') ((trail').length) (d')], .row (.slice A2 ((now').length) c3) 3 1 ((now').length) (ints (now')), .row (.slice (B') ((trail').length) (d')) 138 2 ((trail').length) (notes (trail')), .obj b7 80 [.slice (AL') ((H').length) (cL')], .row (.slice (AL') ((H').length) (cL')) 32 1 ((H').length) (hdrs (H')), .rows (H'), .row (.slice mA marks.length mc) 3 1 marks.length (ints marks)] ∧ (now'.length = k) ∧ (trail'.length ≤ i + 1) ∧ (Ranged k trail') ∧ (Hist H' now' trail')) ?_ ?_
        · skip
          refine wp_seq ?_
          refine region_plain (n := 2) [(0, .p), (1, .l)] rfl rfl ?_
          refine Run.fieldAddr rfl E rfl rfl rfl fo70_0 (rfl) ?_; clear E a; intro a E
          refine Run.load1 rfl rfl E S rfl rfl rfl one3 (fun _ s => s.objCell 0 0 rfl rfl) ?_; clear E a; intro a E
          refine Run.nil ?_
          refine then_n ?_
          refine wp_block ?_
          refine wp_seq ?_
          refine region_plain (n := 2) [(0, .p), (1, .p)] rfl rfl ?_
          by_cases hk1 : (ops[i]).kind = 1
          · skip
            refine Run.eqi rfl E rfl rfl rfl rfl (decide_eq_true (by omega)) ?_; clear E a; intro a E
            refine Run.assign rfl E rfl rfl rfl ?_; clear E a; intro a E
            refine Run.nil ?_
            refine then_n ?_
            refine cond_T E rfl ?_
            refine wp_seq ?_
            refine region_plain (n := 7) [(0, .p), (1, .p), (2, .l), (3, .p), (4, .l), (5, .l), (6, .p)] rfl rfl ?_
            refine Run.move rfl E rfl rfl rfl ?_; clear E a; intro a E
            refine Run.fieldAddr rfl E rfl rfl rfl fo70_1 (rfl) ?_; clear E a; intro a E
            refine Run.load1 rfl rfl E S rfl rfl rfl one3 (fun _ s => s.objCell 0 1 rfl rfl) ?_; clear E a; intro a E
            refine Run.fieldAddr rfl E rfl rfl rfl fo70_2 (rfl) ?_; clear E a; intro a E
            refine Run.load1 rfl rfl E S rfl rfl rfl one3 (fun _ s => s.objCell 0 2 rfl rfl) ?_; clear E a; intro a E
            replace S : St _ _ _ [.obj _ _ [_, _], _, _, .obj _ _ [_, _, _], .obj _ _ [_], _, _, _] := S.sel [1, 2, 3, 0, 4, 5, 6, 7] _ rfl rfl
            refine Run.call (args := [.pointer (some ⟨g1, 0, none⟩), .int .i64 ((ops[i]).i), .int .i64 ((ops[i]).x)]) rfl rfl E rfl rfl Try.func50 nm50 rfl rfl (un_set_any (i := (ops[i]).i) (x := (ops[i]).x) (St.ownL (A := (Book g1 A2 c3 B d now trail)) (R := [_, _, _, _, _]) S) (by omega) (by omega)) ?_; rintro e_ w ⟨b1, B10, d11, rfl, hb1, S_⟩; refine ⟨_, rfl, (fun h => by cases h), ?_⟩; clear E a; intro a E
            replace S : St _ _ _ [.obj _ _ [_, _], _, _, .obj _ _ [_, _, _], .obj _ _ [_], _, _, _] := St.call (A := (Book g1 A2 c3 B d now trail)) (R := [_, _, _, _, _]) S S_; clear S_
            refine Run.assign rfl E rfl rfl rfl ?_; clear E a; intro a E
            refine Run.nil ?_
            refine then_n ?_
            refine region_plain (n := 11) [(0, .l), (1, .p), (2, .l), (3, .p), (4, .l), (5, .l), (6, .p), (7, .p), (8, .p), (9, .l), (10, .p)] rfl rfl ?_
            refine Run.loadN (cs := [.slice AL H.length cL]) rfl rfl E S rfl rfl rfl ag80 rfl (fun _ s => objAll s 4 rfl) ?_; clear E a; intro a E
            refine Run.fieldAddr rfl E rfl rfl rfl fo70_1 (rfl) ?_; clear E a; intro a E
            refine Run.load1 rfl rfl E S rfl rfl rfl one3 (fun _ s => s.objCell 3 1 rfl rfl) ?_; clear E a; intro a E
            refine Run.fieldAddr rfl E rfl rfl rfl fo70_2 (rfl) ?_; clear E a; intro a E
            refine Run.load1 rfl rfl E S rfl rfl rfl one3 (fun _ s => s.objCell 3 2 rfl rfl) ?_; clear E a; intro a E
            by_cases c1 : (ops[i]).i < 0
            · skip
              refine Run.call (args := [.agg #[.slice AL H.length cL], .int .i64 ((ops[i]).i), .int .i64 ((ops[i]).x)]) rfl rfl E rfl rfl Try.func57 nm57 rfl rfl (rset_low (S.rd 5 rfl) hq (by omega) c1) ?_; rintro e_ w ⟨rfl, B_⟩; refine ⟨_, rfl, fun _ => B_, ?_⟩; clear E a; replace S := S.bel B_; intro a E; clear B_
              refine Run.move rfl E rfl rfl rfl ?_; clear E a; intro a E
              refine Run.extract rfl E rfl rfl rfl rfl ?_; clear E a; intro a E
              refine Run.extract rfl E rfl rfl rfl rfl ?_; clear E a; intro a E
              refine Run.store (news := [.slice AL H.length cL]) (cs' := [_]) (hp' := [_, _, _, _, _, _, _, _]) 4 rfl E S rfl rfl rfl rfl rfl sz80 rfl rfl rfl rfl ?_; clear S; intro w S
              refine Run.assign rfl E rfl rfl rfl ?_; clear E a; intro a E
              replace E := E.setb 13 rfl (hb1.trans (decide_eq_false (by omega)))
              have hT := setT_len now trail (ops[i]).i (ops[i]).x
              refine Run.nil ?_
              refine blk_n ?_
              refine then_n ?_
              have S : St _ _ _ [_, _, _, _, _, _, _, _] := S.sel [3, 0, 1, 2, 4, 5, 6, 7] _ rfl rfl
              have S := S.drop1
              exact ⟨(setN now (ops[i]).i (ops[i]).x), (setT now trail (ops[i]).i (ops[i]).x), B10, d11, AL, cL, H, false, E.keeps [(0, _), (7, _), (9, _), (10, _), (13, _), (14, _), (53, _), (54, _), (55, _)] ⟨rfl, rfl, rfl, rfl, rfl, rfl, rfl, rfl, rfl, trivial⟩, S, (by rw [setN_len]; exact hnl), (by omega), (setT_ranged hrg hnl), hH.set_same (fun h => by omega)⟩
            · skip
              by_cases c2 : (now.length : Int) ≤ (ops[i]).i
              · skip
                refine Run.call (args := [.agg #[.slice AL H.length cL], .int .i64 ((ops[i]).i), .int .i64 ((ops[i]).x)]) rfl rfl E rfl rfl Try.func57 nm57 rfl rfl (rset_high (S.rd 5 rfl) hq (by omega) (by omega) (by rw [hqx]; exact c2)) ?_; rintro e_ w ⟨rfl, B_⟩; refine ⟨_, rfl, fun _ => B_, ?_⟩; clear E a; replace S := S.bel B_; intro a E; clear B_
                refine Run.move rfl E rfl rfl rfl ?_; clear E a; intro a E
                refine Run.extract rfl E rfl rfl rfl rfl ?_; clear E a; intro a E
                refine Run.extract rfl E rfl rfl rfl rfl ?_; clear E a; intro a E
                refine Run.store (news := [.slice AL H.length cL]) (cs' := [_]) (hp' := [_, _, _, _, _, _, _, _]) 4 rfl E S rfl rfl rfl rfl rfl sz80 rfl rfl rfl rfl ?_; clear S; intro w S
                refine Run.assign rfl E rfl rfl rfl ?_; clear E a; intro a E
                replace E := E.setb 13 rfl (hb1.trans (decide_eq_false (by omega)))
                have hT := setT_len now trail (ops[i]).i (ops[i]).x
                refine Run.nil ?_
                refine blk_n ?_
                refine then_n ?_
                have S : St _ _ _ [_, _, _, _, _, _, _, _] := S.sel [3, 0, 1, 2, 4, 5, 6, 7] _ rfl rfl
                have S := S.drop1
                exact ⟨(setN now (ops[i]).i (ops[i]).x), (setT now trail (ops[i]).i (ops[i]).x), B10, d11, AL, cL, H, false, E.keeps [(0, _), (7, _), (9, _), (10, _), (13, _), (14, _), (53, _), (54, _), (55, _)] ⟨rfl, rfl, rfl, rfl, rfl, rfl, rfl, rfl, rfl, trivial⟩, S, (by rw [setN_len]; exact hnl), (by omega), (setT_ranged hrg hnl), hH.set_same (fun h => by omega)⟩
              · skip
                obtain ⟨kk, hkk⟩ : ∃ kk : Nat, (ops[i]).i = (kk : Int) := ⟨((ops[i]).i).toNat, by omega⟩
                have hkl : kk < now.length := by omega
                have hky : q.xs[kk]? = some (now[kk]'hkl) := by rw [hqx]; exact List.getElem?_eq_getElem hkl
                by_cases c3 : now[kk]'hkl = (ops[i]).x
                · skip
                  replace E := E.setv 72 rfl (congrArg (Value.int .i64) hkk)
                  refine Run.call (args := [.agg #[.slice AL H.length cL], .int .i64 (kk : Int), .int .i64 ((ops[i]).x)]) rfl rfl E rfl rfl Try.func57 nm57 rfl rfl (rset_same (S.rd 5 rfl) hq (by omega) (S.rowsRd 6 rfl hqm) hky (by rw [hqx]; omega) c3) ?_; rintro e_ w ⟨rfl, B_⟩; refine ⟨_, rfl, fun _ => B_, ?_⟩; clear E a; replace S := S.bel B_; intro a E; clear B_
                  refine Run.move rfl E rfl rfl rfl ?_; clear E a; intro a E
                  refine Run.extract rfl E rfl rfl rfl rfl ?_; clear E a; intro a E
                  refine Run.extract rfl E rfl rfl rfl rfl ?_; clear E a; intro a E
                  refine Run.store (news := [.slice AL H.length cL]) (cs' := [_]) (hp' := [_, _, _, _, _, _, _, _]) 4 rfl E S rfl rfl rfl rfl rfl sz80 rfl rfl rfl rfl ?_; clear S; intro w S
                  refine Run.assign rfl E rfl rfl rfl ?_; clear E a; intro a E
                  replace E := E.setb 13 rfl (hb1.trans (decide_eq_true (by omega)))
                  have hT := setT_len now trail (ops[i]).i (ops[i]).x
                  refine Run.nil ?_
                  refine blk_n ?_
                  refine then_n ?_
                  have S : St _ _ _ [_, _, _, _, _, _, _, _] := S.sel [3, 0, 1, 2, 4, 5, 6, 7] _ rfl rfl
                  have S := S.drop1
                  exact ⟨(setN now (ops[i]).i (ops[i]).x), (setT now trail (ops[i]).i (ops[i]).x), B10, d11, AL, cL, H, true, E.keeps [(0, _), (7, _), (9, _), (10, _), (13, _), (14, _), (53, _), (54, _), (55, _)] ⟨rfl, rfl, rfl, rfl, rfl, rfl, rfl, rfl, rfl, trivial⟩, S, (by rw [setN_len]; exact hnl), (by omega), (setT_ranged hrg hnl), hH.set_same (fun h => h.2.2 (by rw [hkk, Int.toNat_natCast, List.getElem?_eq_getElem hkl, c3]))⟩
                · skip
                  replace E := E.setv 72 rfl (congrArg (Value.int .i64) hkk)
                  refine Run.call (args := [.agg #[.slice AL H.length cL], .int .i64 (kk : Int), .int .i64 ((ops[i]).x)]) rfl rfl E rfl rfl Try.func57 nm57 rfl rfl (rset_new (S.rd 5 rfl) hq (by omega) (S.rowsRd 6 rfl hqm) hky (by rw [hqx]; omega) c3) ?_; rintro e_ w ⟨A12, c13, p_, hp_, rfl, S_⟩; refine ⟨_, rfl, (fun _ => S_.belT), ?_⟩; clear E a; intro a E
                  replace S : St _ _ _ [_, _, .obj _ _ [_, _], _, _, .obj _ _ [_, _, _], .obj _ _ [_], _, _, _] := St.call (A := []) (R := [_, _, _, _, _, _, _, _]) S S_; clear S_
                  replace S := S.sel [1, 8, 0, 2, 3, 4, 5, 6, 7, 9] [_, _, _, _, _, _, _, _, _, _] rfl rfl
                  replace S : St _ _ _ [.rows (H ++ [p_]), _, _, _, _, _, _, _, _] := S.rowsSnoc rfl
                  have hl1 : (H ++ [p_]).length = H.length + 1 := by simp
                  rw [← hl1] at S E
                  replace S : St _ _ _ [_, _, .obj _ _ [_, _], _, _, .obj _ _ [_, _, _], .obj _ _ [_], _, _] := S
                  refine Run.move rfl E rfl rfl rfl ?_; clear E a; intro a E
                  refine Run.extract rfl E rfl rfl rfl rfl ?_; clear E a; intro a E
                  refine Run.extract rfl E rfl rfl rfl rfl ?_; clear E a; intro a E
                  refine Run.store (news := [.slice A12 ((H ++ [p_]).length) c13]) (cs' := [_]) (hp' := [_, _, _, _, _, _, _, _, _]) 6 rfl E S rfl rfl rfl rfl rfl sz80 rfl rfl rfl rfl ?_; clear S; intro w S
                  refine Run.assign rfl E rfl rfl rfl ?_; clear E a; intro a E
                  replace E := E.setb 13 rfl (hb1.trans (decide_eq_true (by omega)))
                  have hT := setT_len now trail (ops[i]).i (ops[i]).x
                  refine Run.nil ?_
                  refine blk_n ?_
                  refine then_n ?_
                  have S : St _ _ _ [_, _, _, _, _, _, _, _, _] := S.sel [5, 7, 2, 3, 4, 6, 1, 0, 8] _ rfl rfl
                  have S := S.drop1.drop1
                  exact ⟨(setN now (ops[i]).i (ops[i]).x), (setT now trail (ops[i]).i (ops[i]).x), B10, d11, A12, c13, (H ++ [p_]), true, E.keeps [(0, _), (7, _), (9, _), (10, _), (13, _), (14, _), (53, _), (54, _), (55, _)] ⟨rfl, rfl, rfl, rfl, rfl, rfl, rfl, rfl, rfl, trivial⟩, S, (by rw [setN_len]; exact hnl), (by omega), (setT_ranged hrg hnl), hH.set ⟨by omega, by omega, by rw [hkk, Int.toNat_natCast, List.getElem?_eq_getElem hkl]; simpa using c3⟩ (by rw [hp_, hqx]; unfold setN; rw [if_pos (by omega), hkk, Int.toNat_natCast])⟩
          · skip
            refine Run.eqi rfl E rfl rfl rfl rfl (decide_eq_false (by omega)) ?_; clear E a; intro a E
            refine Run.assign rfl E rfl rfl rfl ?_; clear E a; intro a E
            refine Run.nil ?_
            refine then_n ?_
            refine cond_F E rfl ?_
            refine wp_seq ?_
            refine region_plain (n := 2) [(0, .p), (1, .p)] rfl rfl ?_
            by_cases hk2 : (ops[i]).kind = 2
            · skip
              refine Run.eqi rfl E rfl rfl rfl rfl (decide_eq_true (by omega)) ?_; clear E a; intro a E
              refine Run.assign rfl E rfl rfl rfl ?_; clear E a; intro a E
              refine Run.nil ?_
              refine then_n ?_
              refine cond_T E rfl ?_
              refine wp_seq ?_
              refine region_plain (n := 5) [(0, .p), (1, .p), (2, .l), (3, .l), (4, .p)] rfl rfl ?_
              refine Run.move rfl E rfl rfl rfl ?_; clear E a; intro a E
              refine Run.fieldAddr rfl E rfl rfl rfl fo70_2 (rfl) ?_; clear E a; intro a E
              refine Run.load1 rfl rfl E S rfl rfl rfl one3 (fun _ s => s.objCell 0 2 rfl rfl) ?_; clear E a; intro a E
              replace S : St _ _ _ [.obj _ _ [_, _], _, _, .obj _ _ [_, _, _], .obj _ _ [_], _, _, _] := S.sel [1, 2, 3, 0, 4, 5, 6, 7] _ rfl rfl
              refine Run.call (args := [.pointer (some ⟨g1, 0, none⟩), .int .i64 ((ops[i]).x)]) rfl rfl E rfl rfl Try.func53 nm53 rfl rfl (un_undo_any (m := (ops[i]).x) (St.ownL (A := (Book g1 A2 c3 B d now trail)) (R := [_, _, _, _, _]) S) (by omega) (by omega) (by rw [hnl]; exact hrg)) ?_; rintro e_ w ⟨rfl, S_⟩; refine ⟨_, rfl, (fun h => by cases h), ?_⟩; clear E a; intro a E
              replace S : St _ _ _ [.obj _ _ [_, _], _, _, .obj _ _ [_, _, _], .obj _ _ [_], _, _, _] := St.call (A := (Book g1 A2 c3 B d now trail)) (R := [_, _, _, _, _]) S S_; clear S_
              refine Run.assign rfl E rfl rfl rfl ?_; clear E a; intro a E
              refine Run.nil ?_
              refine then_n ?_
              refine region_plain (n := 9) [(0, .l), (1, .p), (2, .l), (3, .e), (4, .p), (5, .p), (6, .p), (7, .l), (8, .p)] rfl rfl ?_
              refine Run.loadN (cs := [.slice AL H.length cL]) rfl rfl E S rfl rfl rfl ag80 rfl (fun _ s => objAll s 4 rfl) ?_; clear E a; intro a E
              refine Run.fieldAddr rfl E rfl rfl rfl fo70_2 (rfl) ?_; clear E a; intro a E
              refine Run.load1 rfl rfl E S rfl rfl rfl one3 (fun _ s => s.objCell 3 2 rfl rfl) ?_; clear E a; intro a E
              refine Run.call (args := [.agg #[.slice AL H.length cL], .int .i64 ((ops[i]).x)]) rfl rfl E rfl rfl Try.func58 nm58 rfl rfl (rundo_any (H := H) (m := (ops[i]).x) (S.rowCap 5 rfl) (by omega)) ?_; rintro e_ w ⟨rfl, B_⟩; refine ⟨_, rfl, fun _ => B_, ?_⟩; clear E a; replace S := S.bel B_; intro a E
              clear B_
              refine Run.move rfl E rfl rfl rfl ?_; clear E a; intro a E
              refine Run.extract rfl E rfl rfl rfl rfl ?_; clear E a; intro a E
              refine Run.extract rfl E rfl rfl rfl rfl ?_; clear E a; intro a E
              refine Run.store (news := [.slice AL ((unH H ((ops[i]).x)).length) cL]) (cs' := [_]) (hp' := [_, _, _, _, _, _, _, _]) 4 rfl E S rfl rfl rfl rfl rfl sz80 rfl rfl rfl rfl ?_; clear S; intro w S
              replace S := S.rowTake 5 ((unH H ((ops[i]).x)).length) rfl (unH_le _ _) rfl
              rw [hdrs_take, unH_take] at S
              replace S : St _ _ _ [.obj _ _ [_, _], _, _, .obj _ _ [_, _, _], .obj _ _ [_], _, _, _] := S
              replace S := S.sel [6, 0, 1, 2, 3, 4, 5, 7] [_, _, _, _, _, _, _, _] rfl rfl
              replace S : St _ _ _ [.rows (unH H ((ops[i]).x)), _, _, _, _, _, _, _] := S.rowsSub (unH_sub H ((ops[i]).x))
              refine Run.assign rfl E rfl rfl rfl ?_; clear E a; intro a E
              replace E := E.setb 14 rfl (show decide (0 ≤ ((ops[i]).x) ∧ ((ops[i]).x) < (H.length : Int)) = decide (0 ≤ ((ops[i]).x) ∧ ((ops[i]).x) ≤ (trail.length : Int)) from decide_eq_decide.2 (by omega))
              have hT := unT_len trail ((ops[i]).x)
              refine Run.nil ?_
              refine blk_n ?_
              refine then_n ?_
              have S : St _ _ _ [_, _, _, _, _, _, _, _] := S.sel [4, 1, 2, 3, 5, 6, 0, 7] _ rfl rfl
              have S := S.drop1
              exact ⟨(unN now trail ((ops[i]).x)), (unT trail ((ops[i]).x)), B, d, AL, cL, (unH H ((ops[i]).x)), (decide (0 ≤ ((ops[i]).x) ∧ ((ops[i]).x) ≤ (trail.length : Int))), E.keeps [(0, _), (7, _), (9, _), (10, _), (13, _), (14, _), (53, _), (54, _), (55, _)] ⟨rfl, rfl, rfl, rfl, rfl, rfl, rfl, rfl, rfl, trivial⟩, S, (by rw [unN_len]; exact hnl), (by omega), (unT_ranged hrg), (hH.undo ((ops[i]).x))⟩
            · skip
              refine Run.eqi rfl E rfl rfl rfl rfl (decide_eq_false (by omega)) ?_; clear E a; intro a E
              refine Run.assign rfl E rfl rfl rfl ?_; clear E a; intro a E
              refine Run.nil ?_
              refine then_n ?_
              refine cond_F E rfl ?_
              refine wp_seq ?_
              refine region_plain (n := 2) [(0, .p), (1, .p)] rfl rfl ?_
              by_cases hk3 : (ops[i]).kind = 3
              · skip
                refine Run.eqi rfl E rfl rfl rfl rfl (decide_eq_true (by omega)) ?_; clear E a; intro a E
                refine Run.assign rfl E rfl rfl rfl ?_; clear E a; intro a E
                refine Run.nil ?_
                refine then_n ?_
                refine cond_T E rfl ?_
                refine wp_seq ?_
                refine region_plain (n := 1) [(0, .p)] rfl rfl ?_
                refine Run.assign rfl E rfl rfl rfl ?_; clear E a; intro a E
                refine Run.nil ?_
                refine then_n ?_
                refine wp_seq ?_
                refine wp_seq ?_
                refine region_plain (n := 10) [(0, .p), (1, .l), (2, .p), (3, .p), (4, .p), (5, .l), (6, .p), (7, .p), (8, .p), (9, .p)] rfl rfl ?_
                refine Run.fieldAddr rfl E rfl rfl rfl fo70_2 (rfl) ?_; clear E a; intro a E
                refine Run.load1 rfl rfl E S rfl rfl rfl one3 (fun _ s => s.objCell 0 2 rfl rfl) ?_; clear E a; intro a E
                by_cases hx0 : 0 ≤ (ops[i]).x
                · skip
                  refine Run.geq rfl E rfl rfl rfl rfl (decide_eq_true (by omega)) ?_; clear E a; intro a E
                  refine Run.move rfl E rfl rfl rfl ?_; clear E a; intro a E
                  refine Run.fieldAddr rfl E rfl rfl rfl fo70_2 (rfl) ?_; clear E a; intro a E
                  refine Run.load1 rfl rfl E S rfl rfl rfl one3 (fun _ s => s.objCell 0 2 rfl rfl) ?_; clear E a; intro a E
                  refine Run.move rfl E rfl rfl rfl ?_; clear E a; intro a E
                  refine Run.len rfl E rfl rfl rfl Try.underlying32 ?_; clear E a; intro a E
                  by_cases hxl : (ops[i]).x < (marks.length : Int)
                  · skip
                    obtain ⟨mj, hmj⟩ : ∃ mj : Nat, (mj : Int) = ((marks.length : Int) - 1) - (ops[i]).x := ⟨(((marks.length : Int) - 1) - (ops[i]).x).toNat, by omega⟩
                    have hmjl : mj < marks.length := by omega
                    obtain ⟨bM, rfl⟩ := S.rowAddr 7 rfl (by omega)
                    refine Run.lss rfl E rfl rfl rfl rfl (decide_eq_true (by omega)) ?_; clear E a; intro a E
                    refine Run.pickT rfl E rfl rfl rfl rfl ?_; clear E a; intro a E
                    refine Run.nil ?_
                    refine then_n ?_
                    refine cond_T E rfl ?_
                    refine region_plain (n := 10) [(0, .p), (1, .p), (2, .p), (3, .p), (4, .p), (5, .l), (6, .p), (7, .p), (8, .l), (9, .p)] rfl rfl ?_
                    refine Run.move rfl E rfl rfl rfl ?_; clear E a; intro a E
                    refine Run.move rfl E rfl rfl rfl ?_; clear E a; intro a E
                    refine Run.len rfl E rfl rfl rfl Try.underlying32 ?_; clear E a; intro a E
                    refine Run.sub rfl E rfl rfl rfl rfl (i64_ok (by omega)) ?_; clear E a; intro a E
                    refine Run.fieldAddr rfl E rfl rfl rfl fo70_2 (rfl) ?_; clear E a; intro a E
                    refine Run.load1 rfl rfl E S rfl rfl rfl one3 (fun _ s => s.objCell 0 2 rfl rfl) ?_; clear E a; intro a E
                    refine Run.sub rfl E rfl rfl rfl rfl (q := (mj : Int)) (by rw [← hmj]; exact i64_ok (by omega)) ?_; clear E a; intro a E
                    refine Run.indexAddr rfl E rfl rfl rfl rfl Try.underlying32 sz3 (by omega) (ix_at (m' := mj) (o := mj) (by omega) (Nat.mul_one _)) ?_; clear E a; intro a E
                    refine Run.load1 rfl rfl E S rfl rfl rfl one3 (fun _ s_ => s_.rowCell 7 rfl (ints_get' (List.getElem?_eq_getElem hmjl))) ?_; clear E a; intro a E
                    refine Run.assign rfl E rfl rfl rfl ?_; clear E a; intro a E
                    obtain ⟨mm, hmm⟩ : ∃ mm : Int, mm = marks[mj]'hmjl := ⟨_, rfl⟩
                    replace E := E.setv 15 rfl (congrArg (Value.int .i64) hmm.symm)
                    refine Run.nil ?_
                    refine then_n ?_
                    refine wp_seq ?_
                    refine region_plain (n := 4) [(0, .p), (1, .p), (2, .l), (3, .p)] rfl rfl ?_
                    refine Run.move rfl E rfl rfl rfl ?_; clear E a; intro a E
                    refine Run.move rfl E rfl rfl rfl ?_; clear E a; intro a E
                    replace S : St _ _ _ [.obj _ _ [_, _], _, _, .obj _ _ [_, _, _], .obj _ _ [_], _, _, _] := S.sel [1, 2, 3, 0, 4, 5, 6, 7] _ rfl rfl
                    refine Run.call (args := [.pointer (some ⟨g1, 0, none⟩), .int .i64 mm]) rfl rfl E rfl rfl Try.func53 nm53 rfl rfl (un_undo_any (m := mm) (St.ownL (A := (Book g1 A2 c3 B d now trail)) (R := [_, _, _, _, _]) S) (by omega) (by omega) (by rw [hnl]; exact hrg)) ?_; rintro e_ w ⟨rfl, S_⟩; refine ⟨_, rfl, (fun h => by cases h), ?_⟩; clear E a; intro a E
                    replace S : St _ _ _ [.obj _ _ [_, _], _, _, .obj _ _ [_, _, _], .obj _ _ [_], _, _, _] := St.call (A := (Book g1 A2 c3 B d now trail)) (R := [_, _, _, _, _]) S S_; clear S_
                    refine Run.assign rfl E rfl rfl rfl ?_; clear E a; intro a E
                    refine Run.nil ?_
                    refine then_n ?_
                    refine region_plain (n := 8) [(0, .l), (1, .p), (2, .e), (3, .p), (4, .p), (5, .p), (6, .l), (7, .p)] rfl rfl ?_
                    refine Run.loadN (cs := [.slice AL H.length cL]) rfl rfl E S rfl rfl rfl ag80 rfl (fun _ s => objAll s 4 rfl) ?_; clear E a; intro a E
                    refine Run.move rfl E rfl rfl rfl ?_; clear E a; intro a E
                    refine Run.call (args := [.agg #[.slice AL H.length cL], .int .i64 mm]) rfl rfl E rfl rfl Try.func58 nm58 rfl rfl (rundo_any (H := H) (m := mm) (S.rowCap 5 rfl) (by omega)) ?_; rintro e_ w ⟨rfl, B_⟩; refine ⟨_, rfl, fun _ => B_, ?_⟩; clear E a; replace S := S.bel B_; intro a E
                    clear B_
                    refine Run.move rfl E rfl rfl rfl ?_; clear E a; intro a E
                    refine Run.extract rfl E rfl rfl rfl rfl ?_; clear E a; intro a E
                    refine Run.extract rfl E rfl rfl rfl rfl ?_; clear E a; intro a E
                    refine Run.store (news := [.slice AL ((unH H mm).length) cL]) (cs' := [_]) (hp' := [_, _, _, _, _, _, _, _]) 4 rfl E S rfl rfl rfl rfl rfl sz80 rfl rfl rfl rfl ?_; clear S; intro w S
                    replace S := S.rowTake 5 ((unH H mm).length) rfl (unH_le _ _) rfl
                    rw [hdrs_take, unH_take] at S
                    replace S : St _ _ _ [.obj _ _ [_, _], _, _, .obj _ _ [_, _, _], .obj _ _ [_], _, _, _] := S
                    replace S := S.sel [6, 0, 1, 2, 3, 4, 5, 7] [_, _, _, _, _, _, _, _] rfl rfl
                    replace S : St _ _ _ [.rows (unH H mm), _, _, _, _, _, _, _] := S.rowsSub (unH_sub H mm)
                    refine Run.assign rfl E rfl rfl rfl ?_; clear E a; intro a E
                    replace E := E.setb 14 rfl (show decide (0 ≤ mm ∧ mm < (H.length : Int)) = decide (0 ≤ mm ∧ mm ≤ (trail.length : Int)) from decide_eq_decide.2 (by omega))
                    have hT := unT_len trail mm
                    refine Run.nil ?_
                    refine blk_n ?_
                    refine then_n ?_
                    have S : St _ _ _ [_, _, _, _, _, _, _, _] := S.sel [4, 1, 2, 3, 5, 6, 0, 7] _ rfl rfl
                    have S := S.drop1
                    exact ⟨(unN now trail mm), (unT trail mm), B, d, AL, cL, (unH H mm), (decide (0 ≤ mm ∧ mm ≤ (trail.length : Int))), E.keeps [(0, _), (7, _), (9, _), (10, _), (13, _), (14, _), (53, _), (54, _), (55, _)] ⟨rfl, rfl, rfl, rfl, rfl, rfl, rfl, rfl, rfl, trivial⟩, S, (by rw [unN_len]; exact hnl), (by omega), (unT_ranged hrg), (hH.undo mm)⟩
                  · skip
                    refine Run.lss rfl E rfl rfl rfl rfl (decide_eq_false (by omega)) ?_; clear E a; intro a E
                    refine Run.pickT rfl E rfl rfl rfl rfl ?_; clear E a; intro a E
                    refine Run.nil ?_
                    refine then_n ?_
                    refine cond_F E rfl ?_
                    refine wp_skip ?_
                    refine then_n ?_
                    refine wp_seq ?_
                    refine region_plain (n := 4) [(0, .p), (1, .p), (2, .l), (3, .p)] rfl rfl ?_
                    refine Run.move rfl E rfl rfl rfl ?_; clear E a; intro a E
                    refine Run.move rfl E rfl rfl rfl ?_; clear E a; intro a E
                    replace S : St _ _ _ [.obj _ _ [_, _], _, _, .obj _ _ [_, _, _], .obj _ _ [_], _, _, _] := S.sel [1, 2, 3, 0, 4, 5, 6, 7] _ rfl rfl
                    refine Run.call (args := [.pointer (some ⟨g1, 0, none⟩), .int .i64 0]) rfl rfl E rfl rfl Try.func53 nm53 rfl rfl (un_undo_any (m := 0) (St.ownL (A := (Book g1 A2 c3 B d now trail)) (R := [_, _, _, _, _]) S) (by omega) (by omega) (by rw [hnl]; exact hrg)) ?_; rintro e_ w ⟨rfl, S_⟩; refine ⟨_, rfl, (fun h => by cases h), ?_⟩; clear E a; intro a E
                    replace S : St _ _ _ [.obj _ _ [_, _], _, _, .obj _ _ [_, _, _], .obj _ _ [_], _, _, _] := St.call (A := (Book g1 A2 c3 B d now trail)) (R := [_, _, _, _, _]) S S_; clear S_
                    refine Run.assign rfl E rfl rfl rfl ?_; clear E a; intro a E
                    refine Run.nil ?_
                    refine then_n ?_
                    refine region_plain (n := 8) [(0, .l), (1, .p), (2, .e), (3, .p), (4, .p), (5, .p), (6, .l), (7, .p)] rfl rfl ?_
                    refine Run.loadN (cs := [.slice AL H.length cL]) rfl rfl E S rfl rfl rfl ag80 rfl (fun _ s => objAll s 4 rfl) ?_; clear E a; intro a E
                    refine Run.move rfl E rfl rfl rfl ?_; clear E a; intro a E
                    refine Run.call (args := [.agg #[.slice AL H.length cL], .int .i64 0]) rfl rfl E rfl rfl Try.func58 nm58 rfl rfl (rundo_any (H := H) (m := 0) (S.rowCap 5 rfl) (by omega)) ?_; rintro e_ w ⟨rfl, B_⟩; refine ⟨_, rfl, fun _ => B_, ?_⟩; clear E a; replace S := S.bel B_; intro a E
                    clear B_
                    refine Run.move rfl E rfl rfl rfl ?_; clear E a; intro a E
                    refine Run.extract rfl E rfl rfl rfl rfl ?_; clear E a; intro a E
                    refine Run.extract rfl E rfl rfl rfl rfl ?_; clear E a; intro a E
                    refine Run.store (news := [.slice AL ((unH H 0).length) cL]) (cs' := [_]) (hp' := [_, _, _, _, _, _, _, _]) 4 rfl E S rfl rfl rfl rfl rfl sz80 rfl rfl rfl rfl ?_; clear S; intro w S
                    replace S := S.rowTake 5 ((unH H 0).length) rfl (unH_le _ _) rfl
                    rw [hdrs_take, unH_take] at S
                    replace S : St _ _ _ [.obj _ _ [_, _], _, _, .obj _ _ [_, _, _], .obj _ _ [_], _, _, _] := S
                    replace S := S.sel [6, 0, 1, 2, 3, 4, 5, 7] [_, _, _, _, _, _, _, _] rfl rfl
                    replace S : St _ _ _ [.rows (unH H 0), _, _, _, _, _, _, _] := S.rowsSub (unH_sub H 0)
                    refine Run.assign rfl E rfl rfl rfl ?_; clear E a; intro a E
                    replace E := E.setb 14 rfl (show decide (0 ≤ 0 ∧ 0 < (H.length : Int)) = decide (0 ≤ 0 ∧ 0 ≤ (trail.length : Int)) from decide_eq_decide.2 (by omega))
                    have hT := unT_len trail 0
                    refine Run.nil ?_
                    refine blk_n ?_
                    refine then_n ?_
                    have S : St _ _ _ [_, _, _, _, _, _, _, _] := S.sel [4, 1, 2, 3, 5, 6, 0, 7] _ rfl rfl
                    have S := S.drop1
                    exact ⟨(unN now trail 0), (unT trail 0), B, d, AL, cL, (unH H 0), (decide (0 ≤ 0 ∧ 0 ≤ (trail.length : Int))), E.keeps [(0, _), (7, _), (9, _), (10, _), (13, _), (14, _), (53, _), (54, _), (55, _)] ⟨rfl, rfl, rfl, rfl, rfl, rfl, rfl, rfl, rfl, trivial⟩, S, (by rw [unN_len]; exact hnl), (by omega), (unT_ranged hrg), (hH.undo 0)⟩
                · skip
                  refine Run.geq rfl E rfl rfl rfl rfl (decide_eq_false (by omega)) ?_; clear E a; intro a E
                  refine Run.move rfl E rfl rfl rfl ?_; clear E a; intro a E
                  refine Run.off rfl E rfl rfl ?_; clear E a; intro a E
                  refine Run.off rfl E rfl rfl ?_; clear E a; intro a E
                  refine Run.off rfl E rfl rfl ?_; clear E a; intro a E
                  refine Run.off rfl E rfl rfl ?_; clear E a; intro a E
                  refine Run.off rfl E rfl rfl ?_; clear E a; intro a E
                  refine Run.pickF rfl E rfl rfl rfl rfl ?_; clear E a; intro a E
                  refine Run.nil ?_
                  refine then_n ?_
                  refine cond_F E rfl ?_
                  refine wp_skip ?_
                  refine then_n ?_
                  refine wp_seq ?_
                  refine region_plain (n := 4) [(0, .p), (1, .p), (2, .l), (3, .p)] rfl rfl ?_
                  refine Run.move rfl E rfl rfl rfl ?_; clear E a; intro a E
                  refine Run.move rfl E rfl rfl rfl ?_; clear E a; intro a E
                  replace S : St _ _ _ [.obj _ _ [_, _], _, _, .obj _ _ [_, _, _], .obj _ _ [_], _, _, _] := S.sel [1, 2, 3, 0, 4, 5, 6, 7] _ rfl rfl
                  refine Run.call (args := [.pointer (some ⟨g1, 0, none⟩), .int .i64 0]) rfl rfl E rfl rfl Try.func53 nm53 rfl rfl (un_undo_any (m := 0) (St.ownL (A := (Book g1 A2 c3 B d now trail)) (R := [_, _, _, _, _]) S) (by omega) (by omega) (by rw [hnl]; exact hrg)) ?_; rintro e_ w ⟨rfl, S_⟩; refine ⟨_, rfl, (fun h => by cases h), ?_⟩; clear E a; intro a E
                  replace S : St _ _ _ [.obj _ _ [_, _], _, _, .obj _ _ [_, _, _], .obj _ _ [_], _, _, _] := St.call (A := (Book g1 A2 c3 B d now trail)) (R := [_, _, _, _, _]) S S_; clear S_
                  refine Run.assign rfl E rfl rfl rfl ?_; clear E a; intro a E
                  refine Run.nil ?_
                  refine then_n ?_
                  refine region_plain (n := 8) [(0, .l), (1, .p), (2, .e), (3, .p), (4, .p), (5, .p), (6, .l), (7, .p)] rfl rfl ?_
                  refine Run.loadN (cs := [.slice AL H.length cL]) rfl rfl E S rfl rfl rfl ag80 rfl (fun _ s => objAll s 4 rfl) ?_; clear E a; intro a E
                  refine Run.move rfl E rfl rfl rfl ?_; clear E a; intro a E
                  refine Run.call (args := [.agg #[.slice AL H.length cL], .int .i64 0]) rfl rfl E rfl rfl Try.func58 nm58 rfl rfl (rundo_any (H := H) (m := 0) (S.rowCap 5 rfl) (by omega)) ?_; rintro e_ w ⟨rfl, B_⟩; refine ⟨_, rfl, fun _ => B_, ?_⟩; clear E a; replace S := S.bel B_; intro a E
                  clear B_
                  refine Run.move rfl E rfl rfl rfl ?_; clear E a; intro a E
                  refine Run.extract rfl E rfl rfl rfl rfl ?_; clear E a; intro a E
                  refine Run.extract rfl E rfl rfl rfl rfl ?_; clear E a; intro a E
                  refine Run.store (news := [.slice AL ((unH H 0).length) cL]) (cs' := [_]) (hp' := [_, _, _, _, _, _, _, _]) 4 rfl E S rfl rfl rfl rfl rfl sz80 rfl rfl rfl rfl ?_; clear S; intro w S
                  replace S := S.rowTake 5 ((unH H 0).length) rfl (unH_le _ _) rfl
                  rw [hdrs_take, unH_take] at S
                  replace S : St _ _ _ [.obj _ _ [_, _], _, _, .obj _ _ [_, _, _], .obj _ _ [_], _, _, _] := S
                  replace S := S.sel [6, 0, 1, 2, 3, 4, 5, 7] [_, _, _, _, _, _, _, _] rfl rfl
                  replace S : St _ _ _ [.rows (unH H 0), _, _, _, _, _, _, _] := S.rowsSub (unH_sub H 0)
                  refine Run.assign rfl E rfl rfl rfl ?_; clear E a; intro a E
                  replace E := E.setb 14 rfl (show decide (0 ≤ 0 ∧ 0 < (H.length : Int)) = decide (0 ≤ 0 ∧ 0 ≤ (trail.length : Int)) from decide_eq_decide.2 (by omega))
                  have hT := unT_len trail 0
                  refine Run.nil ?_
                  refine blk_n ?_
                  refine then_n ?_
                  have S : St _ _ _ [_, _, _, _, _, _, _, _] := S.sel [4, 1, 2, 3, 5, 6, 0, 7] _ rfl rfl
                  have S := S.drop1
                  exact ⟨(unN now trail 0), (unT trail 0), B, d, AL, cL, (unH H 0), (decide (0 ≤ 0 ∧ 0 ≤ (trail.length : Int))), E.keeps [(0, _), (7, _), (9, _), (10, _), (13, _), (14, _), (53, _), (54, _), (55, _)] ⟨rfl, rfl, rfl, rfl, rfl, rfl, rfl, rfl, rfl, trivial⟩, S, (by rw [unN_len]; exact hnl), (by omega), (unT_ranged hrg), (hH.undo 0)⟩
              · skip
                refine Run.eqi rfl E rfl rfl rfl rfl (decide_eq_false (by omega)) ?_; clear E a; intro a E
                refine Run.assign rfl E rfl rfl rfl ?_; clear E a; intro a E
                refine Run.nil ?_
                refine then_n ?_
                refine cond_F E rfl ?_
                refine wp_skip ?_
                refine blk_n ?_
                refine then_n ?_
                have S : St _ _ _ [_, _, _, _, _, _, _, _] := S.sel [0, 1, 2, 3, 4, 5, 6, 7] _ rfl rfl
                have S := S.drop1
                exact ⟨now, trail, B, d, AL, cL, H, true, E.keeps [(0, _), (7, _), (9, _), (10, _), (13, _), (14, _), (53, _), (54, _), (55, _)] ⟨rfl, rfl, rfl, rfl, rfl, rfl, rfl, rfl, rfl, trivial⟩, S, hnl, (by omega), hrg, hH⟩
        clear E a S
        rintro a w ⟨now', trail', B', d', AL', cL', H', b, E, S, hnl', htl', hrg', hH'⟩
        obtain ⟨q', hq', hqm', hqx'⟩ := hH'.last
        have hHl' := hH'.1
        refine wp_seq ?_
        refine wp_seq ?_
        refine region_drawS (n := 27) [(0, .p), (1, .p), (2, .p), (3, .p), (4, .p), (6, .p), (7, .t), (8, .p), (9, .p), (5, .e), (10, .p), (11, .p), (12, .p), (13, .p), (15, .p), (14, .e), (16, .p), (17, .p), (18, .p), (19, .p), (20, .p), (22, .t), (21, .e), (23, .e), (24, .e), (25, .p), (26, .p)] [0, 0, 3, 7, 15, 31, 15, 79, 207, 463, 1023, 2047, 4095, 8191, 16383, 8191, 65535, 131071, 262143, 524287, 524287, 2097151, 524287, 8388607, 16777215, 33554431, 67108863] S mixed rfl rfl (by kernel_rfl) (fun _ _ _ _ _ h => h) ?_; clear S; intro w S B_; clear B_
        refine Run.move rfl E rfl rfl rfl ?_; clear E a; intro a E
        refine Run.move rfl E rfl rfl rfl ?_; clear E a; intro a E
        refine Run.neb (c := false) rfl E rfl rfl rfl rfl Try.underlying4 (by simp) ?_; clear E a; intro a E
        refine Run.move rfl E rfl rfl rfl ?_; clear E a; intro a E
        refine Run.move rfl E rfl rfl rfl ?_; clear E a; intro a E
        refine Run.fieldAddr rfl E rfl rfl rfl fo80_0 (rfl) ?_; clear E a; intro a E
        refine Run.load1 rfl rfl E S rfl rfl rfl one78 (fun _ s => s.objCell 3 0 rfl rfl) ?_; clear E a; intro a E
        refine Run.len rfl E rfl rfl rfl Try.underlying78 ?_; clear E a; intro a E
        refine Run.sub rfl E rfl rfl rfl rfl (i64_ok (by omega)) ?_; clear E a; intro a E
        refine Run.call (args := [.pointer (some ⟨g1, 0, none⟩)]) rfl rfl E rfl rfl Try.func52 nm52 rfl rfl (un_mark (St.holdsL (A := (Book g1 A2 c3 (B') (d') (now') (trail'))) (R := [_, _, _, _]) (S.sel [0, 1, 2, 3, 4, 5, 6] ((Book g1 A2 c3 (B') (d') (now') (trail')) ++ [_, _, _, _]) rfl rfl))) ?_; rintro e_ w ⟨rfl, B_⟩; refine ⟨_, rfl, fun _ => B_, ?_⟩; clear E a; replace S := S.bel B_; intro a E
        clear B_
        refine Run.nei rfl E rfl rfl rfl rfl (decide_eq_false (by omega)) ?_; clear E a; intro a E
        refine Run.pickF rfl E rfl rfl rfl rfl ?_; clear E a; intro a E
        refine Run.move rfl E rfl rfl rfl ?_; clear E a; intro a E
        refine Run.move rfl E rfl rfl rfl ?_; clear E a; intro a E
        refine Run.move rfl E rfl rfl rfl ?_; clear E a; intro a E
        refine Run.call (args := [.pointer (some ⟨g1, 0, none⟩)]) rfl rfl E rfl rfl Try.func59 nm59 rfl rfl (un_len (St.holdsL (A := (Book g1 A2 c3 (B') (d') (now') (trail'))) (R := [_, _, _, _]) (S.sel [0, 1, 2, 3, 4, 5, 6] ((Book g1 A2 c3 (B') (d') (now') (trail')) ++ [_, _, _, _]) rfl rfl))) ?_; rintro e_ w ⟨rfl, B_⟩; refine ⟨_, rfl, fun _ => B_, ?_⟩; clear E a; replace S := S.bel B_; intro a E
        clear B_
        refine Run.nei rfl E rfl rfl rfl rfl (decide_eq_false (by omega)) ?_; clear E a; intro a E
        refine Run.pickF rfl E rfl rfl rfl rfl ?_; clear E a; intro a E
        refine Run.move rfl E rfl rfl rfl ?_; clear E a; intro a E
        refine Run.move rfl E rfl rfl rfl ?_; clear E a; intro a E
        refine Run.move rfl E rfl rfl rfl ?_; clear E a; intro a E
        refine Run.loadN (cs := [.slice (AL') ((H').length) (cL')]) rfl rfl E S rfl rfl rfl ag80 rfl (fun _ s => objAll s 3 rfl) ?_; clear E a; intro a E
        have hpb : partOf now' 0 (k : Int) = now' := part_all hnl'
        refine Run.call (args := [.pointer (some ⟨g1, 0, none⟩), .int .i64 0, .int .i64 (k : Int)]) rfl rfl E rfl rfl Try.func51 nm51 rfl rfl (un_part (f := 0) (t := (k : Int)) (St.holdsL (A := (Book g1 A2 c3 (B') (d') (now') (trail'))) (R := [_, _, _, _]) (S.sel [0, 1, 2, 3, 4, 5, 6] ((Book g1 A2 c3 (B') (d') (now') (trail')) ++ [_, _, _, _]) rfl rfl)) (by omega)) ?_; rintro e_ w ⟨A14, c15, rfl, S_⟩; refine ⟨_, rfl, (fun _ => S_.belT), ?_⟩; clear E a; intro a E
        rw [hpb] at E S_
        replace S : St _ _ _ [_, .obj _ _ [_, _], _, _, .obj _ _ [_], _, _, _] := St.call (A := []) (R := [_, _, _, _, _, _, _]) S S_; clear S_
        refine Run.call (args := [.agg #[.slice (AL') ((H').length) (cL')]]) rfl rfl E rfl rfl Try.func60 nm60 rfl rfl (rnow_walk (H := H') (S.rd 5 rfl) hq' (by omega)) ?_; rintro e_ w ⟨rfl, B_⟩; refine ⟨_, rfl, fun _ => B_, ?_⟩; clear E a; replace S := S.bel B_; intro a E
        clear B_
        refine Run.call (args := [.slice A14 (now'.length) c15, .slice (q'.A) (q'.xs.length) (q'.c)]) rfl rfl E rfl rfl Try.func54 nm54 rfl rfl (same15_eq (l := now') (m := q'.xs) (S.rd 0 rfl) (S.rowsRd 6 rfl hqm') (by omega) hqx'.symm) ?_; rintro e_ w ⟨rfl, B_⟩; refine ⟨_, rfl, fun _ => B_, ?_⟩; clear E a; replace S := S.bel B_; intro a E
        clear B_
        refine Run.not rfl E rfl rfl rfl rfl ?_; clear E a; intro a E
        refine Run.pickF rfl E rfl rfl rfl rfl ?_; clear E a; intro a E
        refine Run.nil ?_
        refine then_n ?_
        refine cond_F E rfl ?_
        refine wp_skip ?_
        refine then_n ?_
        refine region_plain (n := 6) [(0, .p), (1, .p), (2, .e), (3, .e), (4, .l), (5, .p)] rfl rfl ?_
        refine Run.move rfl E rfl rfl rfl ?_; clear E a; intro a E
        refine Run.move rfl E rfl rfl rfl ?_; clear E a; intro a E
        refine Run.call (args := [.pointer (some ⟨g1, 0, none⟩)]) rfl rfl E rfl rfl Try.func52 nm52 rfl rfl (un_mark (St.holdsL (A := (Book g1 A2 c3 (B') (d') (now') (trail'))) (R := [_, _, _, _, _]) (S.sel [1, 2, 3, 0, 4, 5, 6, 7] ((Book g1 A2 c3 (B') (d') (now') (trail')) ++ [_, _, _, _, _]) rfl rfl))) ?_; rintro e_ w ⟨rfl, B_⟩; refine ⟨_, rfl, fun _ => B_, ?_⟩; clear E a; replace S := S.bel B_; intro a E
        clear B_
        refine Run.buildSlice (cs := [.int .i64 (trail'.length : Int)]) [(0, .int .i64 (trail'.length : Int))] rfl rfl E S rfl rfl rfl Try.underlying32 (by kernel_rfl) ?_; clear E a S; intro b16 w a E S B_; clear B_
        have hm1 : (marks ++ [(trail'.length : Int)]).length = marks.length + 1 := by simp
        refine Run.append (news := [.int .i64 (trail'.length : Int)]) (nm := (marks ++ [(trail'.length : Int)]).length) 8 rfl E S rfl rfl rfl rfl rfl Try.underlying32 I3 rfl rfl rfl (objNews S 0 rfl) (by simp [Value.oneCell']) (by omega) (by omega) (by omega) ?_; clear E a S; intro A17 c18 w a E S
        rw [ints_snoc] at S
        replace S : St _ _ _ [.obj _ _ [_], _, .obj _ _ [_, _], _, _, .obj _ _ [_], _, _, _] := S
        refine Run.assign rfl E rfl rfl rfl ?_; clear E a; intro a E
        refine Run.nil ?_
        refine blk_n ?_
        refine then_n ?_
        refine region_plain (n := 2) [(0, .p), (1, .p)] rfl rfl ?_
        refine Run.add rfl E rfl rfl rfl rfl (i64_ok (by omega)) ?_; clear E a; intro a E
        refine Run.move rfl E rfl rfl rfl ?_; clear E a; intro a E
        refine Run.nil ?_
        refine then_n ?_
        replace E := E.setv 55 rfl (show Value.int .i64 ((i : Int) + 1) = .int .i64 ((i + 1 : Nat) : Int) from rfl)
        have S : St _ _ _ [_, _, _, _, _, _, _, _, _] := S.sel [0, 1, 2, 3, 4, 5, 6, 7, 8] _ rfl rfl
        have S := S.drop1.drop1
        exact ⟨_, (by omega), (i + 1), now', trail', B', d', AL', cL', H', (marks ++ [(trail'.length : Int)]), A17, c18, rfl, E.keeps [(0, _), (7, _), (9, _), (10, _), (53, _), (54, _), (55, _)] ⟨rfl, rfl, rfl, rfl, rfl, rfl, rfl, trivial⟩, S, (by omega), hnl', htl', hrg', hH', (by simp; omega)⟩
      · skip
        refine Run.lss rfl E rfl rfl rfl rfl (decide_eq_false (by omega)) ?_; clear E a; intro a E
        refine Run.nil ?_
        refine then_n ?_
        refine wp_seq ?_
        refine cond_F E rfl ?_
        refine wp_exit ?_
        refine then_x ?_
        refine then_x ?_
        refine blk_x ?_
        refine then_n ?_
        refine wp_seq ?_
        refine region_plain (n := 1) [(0, .p)] rfl rfl ?_
        refine Run.assign rfl E rfl rfl rfl ?_; clear E a; intro a E
        refine Run.nil ?_
        refine then_n ?_
        refine wp_ret ?_
        exact ret1 E Try.results11 rfl ⟨rfl, S.belT⟩

theorem undoPlays_low {A : Option Addr} {c : Nat} {n v : Int} {ops : List Stp} (h : n < 0) : Calls Try.prog 11 [.int .i64 n, .int .i64 v, .slice A ops.length c].toArray w0 (fun r w' => r = .returned (.bool true) ∧ Bel w0 w') := by
  have S := St.nil [] w0
  refine fn_start Try.func11 rfl 154 rfl rfl [(0, _), (1, _), (2, _)] ⟨rfl, rfl, rfl, trivial⟩ ?_; intro a E
  refine wp_seq ?_
  refine region_plain (n := 1) [(0, .p)] rfl rfl ?_
  refine Run.assign rfl E rfl rfl rfl ?_; clear E a; intro a E
  refine Run.nil ?_
  refine then_n ?_
  refine wp_seq ?_
  refine wp_seq ?_
  refine region_plain (n := 2) [(0, .e), (1, .p)] rfl rfl ?_
  refine Run.call (args := []) rfl rfl E rfl rfl Try.func48 nm48 rfl rfl (anchor15) ?_; rintro e_ w ⟨rfl, B_⟩; refine ⟨_, rfl, fun _ => B_, ?_⟩; clear E a; replace S := S.bel B_; intro a E
  clear B_
  refine Run.not rfl E rfl rfl rfl rfl ?_; clear E a; intro a E
  refine Run.nil ?_
  refine then_n ?_
  refine cond_F E rfl ?_
  refine wp_skip ?_
  refine then_n ?_
  refine wp_seq ?_
  refine region_plain (n := 8) [(0, .p), (1, .p), (2, .e), (3, .p), (4, .p), (5, .p), (6, .p), (7, .p)] rfl rfl ?_
  refine Run.move rfl E rfl rfl rfl ?_; clear E a; intro a E
  refine Run.move rfl E rfl rfl rfl ?_; clear E a; intro a E
  refine Run.call (args := [.int .i64 n, .int .i64 v]) rfl rfl E rfl rfl Try.func49 nm49 rfl rfl (un_new_low h) ?_; rintro e_ w ⟨rfl, B_⟩; refine ⟨_, rfl, fun _ => B_, ?_⟩; clear E a; replace S := S.bel B_; intro a E
  clear B_
  refine Run.move rfl E rfl rfl rfl ?_; clear E a; intro a E
  refine Run.extract rfl E rfl rfl rfl rfl ?_; clear E a; intro a E
  refine Run.extract rfl E rfl rfl rfl rfl ?_; clear E a; intro a E
  refine Run.assign rfl E rfl rfl rfl ?_; clear E a; intro a E
  refine Run.assign rfl E rfl rfl rfl ?_; clear E a; intro a E
  refine Run.nil ?_
  refine then_n ?_
  refine wp_seq ?_
  refine wp_seq ?_
  refine region_plain (n := 6) [(0, .p), (1, .p), (2, .p), (3, .p), (4, .p), (5, .p)] rfl rfl ?_
  refine Run.move rfl E rfl rfl rfl ?_; clear E a; intro a E
  refine Run.lss rfl E rfl rfl rfl rfl (decide_eq_true (h)) ?_; clear E a; intro a E
  refine Run.move rfl E rfl rfl rfl ?_; clear E a; intro a E
  refine Run.off rfl E rfl rfl ?_; clear E a; intro a E
  refine Run.off rfl E rfl rfl ?_; clear E a; intro a E
  refine Run.pickT rfl E rfl rfl rfl rfl ?_; clear E a; intro a E
  refine Run.nil ?_
  refine then_n ?_
  refine cond_T E rfl ?_
  refine wp_seq ?_
  refine region_plain (n := 7) [(0, .p), (1, .p), (2, .p), (3, .p), (4, .p), (5, .p), (6, .p)] rfl rfl ?_
  refine Run.move rfl E rfl rfl rfl ?_; clear E a; intro a E
  refine Run.eqi rfl E rfl rfl rfl rfl (b := true) (by decide) ?_; clear E a; intro a E
  refine Run.move rfl E rfl rfl rfl ?_; clear E a; intro a E
  refine Run.move rfl E rfl rfl rfl ?_; clear E a; intro a E
  refine Run.bin (v := .bool true) rfl E rfl rfl rfl rfl (fun _ => by kernel_rfl) ?_; clear E a; intro a E
  refine Run.pickT rfl E rfl rfl rfl rfl ?_; clear E a; intro a E
  refine Run.assign rfl E rfl rfl rfl ?_; clear E a; intro a E
  refine Run.nil ?_
  refine then_n ?_
  refine wp_ret ?_
  refine then_r ?_
  exact ret1 E Try.results11 rfl ⟨rfl, S.belT⟩

theorem undoPlays_high {A : Option Addr} {c : Nat} {n v : Int} {ops : List Stp} (h : 65536 < n) : Calls Try.prog 11 [.int .i64 n, .int .i64 v, .slice A ops.length c].toArray w0 (fun r w' => r = .returned (.bool true) ∧ Bel w0 w') := by
  have S := St.nil [] w0
  refine fn_start Try.func11 rfl 154 rfl rfl [(0, _), (1, _), (2, _)] ⟨rfl, rfl, rfl, trivial⟩ ?_; intro a E
  refine wp_seq ?_
  refine region_plain (n := 1) [(0, .p)] rfl rfl ?_
  refine Run.assign rfl E rfl rfl rfl ?_; clear E a; intro a E
  refine Run.nil ?_
  refine then_n ?_
  refine wp_seq ?_
  refine wp_seq ?_
  refine region_plain (n := 2) [(0, .e), (1, .p)] rfl rfl ?_
  refine Run.call (args := []) rfl rfl E rfl rfl Try.func48 nm48 rfl rfl (anchor15) ?_; rintro e_ w ⟨rfl, B_⟩; refine ⟨_, rfl, fun _ => B_, ?_⟩; clear E a; replace S := S.bel B_; intro a E
  clear B_
  refine Run.not rfl E rfl rfl rfl rfl ?_; clear E a; intro a E
  refine Run.nil ?_
  refine then_n ?_
  refine cond_F E rfl ?_
  refine wp_skip ?_
  refine then_n ?_
  refine wp_seq ?_
  refine region_plain (n := 8) [(0, .p), (1, .p), (2, .e), (3, .p), (4, .p), (5, .p), (6, .p), (7, .p)] rfl rfl ?_
  refine Run.move rfl E rfl rfl rfl ?_; clear E a; intro a E
  refine Run.move rfl E rfl rfl rfl ?_; clear E a; intro a E
  refine Run.call (args := [.int .i64 n, .int .i64 v]) rfl rfl E rfl rfl Try.func49 nm49 rfl rfl (un_new_high h) ?_; rintro e_ w ⟨rfl, B_⟩; refine ⟨_, rfl, fun _ => B_, ?_⟩; clear E a; replace S := S.bel B_; intro a E
  clear B_
  refine Run.move rfl E rfl rfl rfl ?_; clear E a; intro a E
  refine Run.extract rfl E rfl rfl rfl rfl ?_; clear E a; intro a E
  refine Run.extract rfl E rfl rfl rfl rfl ?_; clear E a; intro a E
  refine Run.assign rfl E rfl rfl rfl ?_; clear E a; intro a E
  refine Run.assign rfl E rfl rfl rfl ?_; clear E a; intro a E
  refine Run.nil ?_
  refine then_n ?_
  refine wp_seq ?_
  refine wp_seq ?_
  refine region_plain (n := 6) [(0, .p), (1, .p), (2, .p), (3, .p), (4, .p), (5, .p)] rfl rfl ?_
  refine Run.move rfl E rfl rfl rfl ?_; clear E a; intro a E
  refine Run.lss rfl E rfl rfl rfl rfl (decide_eq_false (by omega)) ?_; clear E a; intro a E
  refine Run.move rfl E rfl rfl rfl ?_; clear E a; intro a E
  refine Run.move rfl E rfl rfl rfl ?_; clear E a; intro a E
  refine Run.gtr rfl E rfl rfl rfl rfl (decide_eq_true (h)) ?_; clear E a; intro a E
  refine Run.pickF rfl E rfl rfl rfl rfl ?_; clear E a; intro a E
  refine Run.nil ?_
  refine then_n ?_
  refine cond_T E rfl ?_
  refine wp_seq ?_
  refine region_plain (n := 7) [(0, .p), (1, .p), (2, .p), (3, .p), (4, .p), (5, .p), (6, .p)] rfl rfl ?_
  refine Run.move rfl E rfl rfl rfl ?_; clear E a; intro a E
  refine Run.eqi rfl E rfl rfl rfl rfl (b := true) (by decide) ?_; clear E a; intro a E
  refine Run.move rfl E rfl rfl rfl ?_; clear E a; intro a E
  refine Run.move rfl E rfl rfl rfl ?_; clear E a; intro a E
  refine Run.bin (v := .bool true) rfl E rfl rfl rfl rfl (fun _ => by kernel_rfl) ?_; clear E a; intro a E
  refine Run.pickT rfl E rfl rfl rfl rfl ?_; clear E a; intro a E
  refine Run.assign rfl E rfl rfl rfl ?_; clear E a; intro a E
  refine Run.nil ?_
  refine then_n ?_
  refine wp_ret ?_
  refine then_r ?_
  exact ret1 E Try.results11 rfl ⟨rfl, S.belT⟩

theorem undoPlays_walk {A : Option Addr} {c : Nat} {n v : Int} {ops : List Stp} (H1 : Rd w0 A ops.length 3 (stps ops)) : Calls Try.prog 11 [.int .i64 n, .int .i64 v, .slice A ops.length c].toArray w0 (fun r w' => r = .returned (.bool true) ∧ Bel w0 w') := by
  rcases Int.lt_or_le n 0 with h | h0
  · exact undoPlays_low h
  · rcases Int.lt_or_le 65536 n with h | h1
    · exact undoPlays_high h
    · obtain ⟨k, rfl⟩ : ∃ k : Nat, n = (k : Int) := ⟨n.toNat, by omega⟩
      exact undoPlays_mid H1 (by omega)

end
end Go.Proofs.Ytlcglefbhlhcpaa.K
