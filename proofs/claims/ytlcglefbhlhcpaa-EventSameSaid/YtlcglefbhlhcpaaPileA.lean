/- The pile: New, Len, Most, Push, Top, Bar, Pop, Cut. -/
import Derived.Test.YtlcglefbhlhcpaaKg
namespace Go.Proofs.Ytlcglefbhlhcpaa.K
open Go.RowKit
set_option linter.unusedVariables false
set_option maxRecDepth 100000

/-- A pile in memory. -/
def Pile (g : Nat) (A : Option Addr) (c : Nat) (B : Option Addr) (d : Nat) (lim most : Int) (l : List Ent) (bars : List Int) : List Ck :=
  [.obj g 130 [.int .i64 lim, .int .i64 most, .slice A l.length c, .slice B bars.length d], .row (.slice A l.length c) 43 6 l.length (ents l), .row (.slice B bars.length d) 3 1 bars.length (ints bars)]
def Ent.val' (e : Ent) : Value := .agg #[.bool e.bar, .int .i64 e.pc, .int .i64 e.pos, .int .i64 e.mark, .int .i64 e.org, .int .i64 e.val]
theorem roObj' {b : Nat} {ty : TypeId} {cs : List Value} {w0 w : World} {hp : List Ck} {j : Nat} {v : Value} (h : (Ck.obj b ty cs).holds w0) (s : St [] w0 w hp) (hj : cs[j]? = some v) : w.cell? ⟨b, j, none⟩ = some v := roObj h s hj
section
variable {w0 : World} {g c d : Nat} {A B : Option Addr} {lim most : Int} {l : List Ent} {bars : List Int} {e : Ent}

theorem pile_new_low (h : lim < 0) : Calls Try.prog 29 [.int .i64 lim].toArray w0 (fun r w' => r = .returned (.tuple #[.pointer none, .int .i64 10]) ∧ Bel w0 w') := by
  have S := St.nil [] w0
  refine fn_start Try.func29 rfl 13 rfl rfl [(0, _)] ⟨rfl, trivial⟩ ?_; intro a E
  refine wp_seq ?_
  refine region_plain (n := 2) [(0, .p), (1, .p)] rfl rfl ?_
  refine Run.assign rfl E rfl rfl rfl ?_; clear E a; intro a E
  refine Run.assign rfl E rfl rfl rfl ?_; clear E a; intro a E
  refine Run.nil ?_
  refine then_n ?_
  refine wp_seq ?_
  refine wp_seq ?_
  refine region_plain (n := 6) [(0, .p), (1, .p), (2, .p), (3, .p), (4, .p), (5, .p)] rfl rfl ?_
  refine Run.move rfl E rfl rfl rfl ?_; clear E a; intro a E
  refine Run.lss rfl E rfl rfl rfl rfl (decide_eq_true (by omega)) ?_; clear E a; intro a E
  refine Run.move rfl E rfl rfl rfl ?_; clear E a; intro a E
  refine Run.off rfl E rfl rfl ?_; clear E a; intro a E
  refine Run.off rfl E rfl rfl ?_; clear E a; intro a E
  refine Run.pickT rfl E rfl rfl rfl rfl ?_; clear E a; intro a E
  refine Run.nil ?_
  refine then_n ?_
  refine cond_T E rfl ?_
  refine wp_seq ?_
  refine region_plain (n := 2) [(0, .p), (1, .p)] rfl rfl ?_
  refine Run.assign rfl E rfl rfl rfl ?_; clear E a; intro a E
  refine Run.assign rfl E rfl rfl rfl ?_; clear E a; intro a E
  refine Run.nil ?_
  refine then_n ?_
  refine wp_ret ?_
  refine then_r ?_
  exact ret2 E Try.results29 rfl rfl ⟨rfl, S.belT⟩

theorem pile_new_high (h0 : 0 ≤ lim) (h : 65536 < lim) : Calls Try.prog 29 [.int .i64 lim].toArray w0 (fun r w' => r = .returned (.tuple #[.pointer none, .int .i64 10]) ∧ Bel w0 w') := by
  have S := St.nil [] w0
  refine fn_start Try.func29 rfl 13 rfl rfl [(0, _)] ⟨rfl, trivial⟩ ?_; intro a E
  refine wp_seq ?_
  refine region_plain (n := 2) [(0, .p), (1, .p)] rfl rfl ?_
  refine Run.assign rfl E rfl rfl rfl ?_; clear E a; intro a E
  refine Run.assign rfl E rfl rfl rfl ?_; clear E a; intro a E
  refine Run.nil ?_
  refine then_n ?_
  refine wp_seq ?_
  refine wp_seq ?_
  refine region_plain (n := 6) [(0, .p), (1, .p), (2, .p), (3, .p), (4, .p), (5, .p)] rfl rfl ?_
  refine Run.move rfl E rfl rfl rfl ?_; clear E a; intro a E
  refine Run.lss rfl E rfl rfl rfl rfl (decide_eq_false (by omega)) ?_; clear E a; intro a E
  refine Run.move rfl E rfl rfl rfl ?_; clear E a; intro a E
  refine Run.move rfl E rfl rfl rfl ?_; clear E a; intro a E
  refine Run.gtr rfl E rfl rfl rfl rfl (decide_eq_true (by omega)) ?_; clear E a; intro a E
  refine Run.pickF rfl E rfl rfl rfl rfl ?_; clear E a; intro a E
  refine Run.nil ?_
  refine then_n ?_
  refine cond_T E rfl ?_
  refine wp_seq ?_
  refine region_plain (n := 2) [(0, .p), (1, .p)] rfl rfl ?_
  refine Run.assign rfl E rfl rfl rfl ?_; clear E a; intro a E
  refine Run.assign rfl E rfl rfl rfl ?_; clear E a; intro a E
  refine Run.nil ?_
  refine then_n ?_
  refine wp_ret ?_
  refine then_r ?_
  exact ret2 E Try.results29 rfl rfl ⟨rfl, S.belT⟩

theorem pile_new (h0 : 0 ≤ lim) (h1 : lim ≤ 65536) : Calls Try.prog 29 [.int .i64 lim].toArray w0 (fun r w' => ∃ g, r = .returned (.tuple #[.pointer (some ⟨g, 0, none⟩), .int .i64 0]) ∧ St [] w0 w' (Pile g none 0 none 0 lim 0 [] [])) := by
  have S := St.nil [] w0
  refine fn_start Try.func29 rfl 13 rfl rfl [(0, _)] ⟨rfl, trivial⟩ ?_; intro a E
  refine wp_seq ?_
  refine region_plain (n := 2) [(0, .p), (1, .p)] rfl rfl ?_
  refine Run.assign rfl E rfl rfl rfl ?_; clear E a; intro a E
  refine Run.assign rfl E rfl rfl rfl ?_; clear E a; intro a E
  refine Run.nil ?_
  refine then_n ?_
  refine wp_seq ?_
  refine wp_seq ?_
  refine region_plain (n := 6) [(0, .p), (1, .p), (2, .p), (3, .p), (4, .p), (5, .p)] rfl rfl ?_
  refine Run.move rfl E rfl rfl rfl ?_; clear E a; intro a E
  refine Run.lss rfl E rfl rfl rfl rfl (decide_eq_false (by omega)) ?_; clear E a; intro a E
  refine Run.move rfl E rfl rfl rfl ?_; clear E a; intro a E
  refine Run.move rfl E rfl rfl rfl ?_; clear E a; intro a E
  refine Run.gtr rfl E rfl rfl rfl rfl (decide_eq_false (by omega)) ?_; clear E a; intro a E
  refine Run.pickF rfl E rfl rfl rfl rfl ?_; clear E a; intro a E
  refine Run.nil ?_
  refine then_n ?_
  refine cond_F E rfl ?_
  refine wp_skip ?_
  refine then_n ?_
  refine wp_seq ?_
  refine region_plain (n := 5) [(0, .p), (1, .p), (2, .e), (3, .p), (4, .p)] rfl rfl ?_
  refine Run.move rfl E rfl rfl rfl ?_; clear E a; intro a E
  refine Run.build (cs := #[.int .i64 lim, .int .i64 0, .slice none 0 0, .slice none 0 0]) [(0, .int .i64 lim)] rfl E rfl rfl rfl rfl ?_; clear E a; intro a E
  refine Run.box (cs := [.int .i64 lim, .int .i64 0, .slice none 0 0, .slice none 0 0]) rfl rfl E S rfl rfl rfl rfl ?_; clear E a S; intro b1 w a E S B_; clear B_
  refine Run.assign rfl E rfl rfl rfl ?_; clear E a; intro a E
  refine Run.assign rfl E rfl rfl rfl ?_; clear E a; intro a E
  refine Run.nil ?_
  refine then_n ?_
  refine wp_ret ?_
  exact ret2 E Try.results29 rfl rfl ⟨b1, rfl, ((S.addNil 43 6).addNil 3 1).sel [2, 1, 0] _ rfl rfl⟩

theorem pile_len (H : HoldsAll w0 (Pile g A c B d lim most l bars)) : Calls Try.prog 35 [.pointer (some ⟨g, 0, none⟩)].toArray w0 (fun r w' => r = .returned (.int .i64 (l.length : Int)) ∧ Bel w0 w') := by
  have S := St.nil [] w0
  obtain ⟨hg, ha, hb, -⟩ := H
  refine fn_start Try.func35 rfl 8 rfl rfl [(0, _)] ⟨rfl, trivial⟩ ?_; intro a E
  refine wp_seq ?_
  refine region_plain (n := 1) [(0, .p)] rfl rfl ?_
  refine Run.assign rfl E rfl rfl rfl ?_; clear E a; intro a E
  refine Run.nil ?_
  refine then_n ?_
  refine wp_seq ?_
  refine region_plain (n := 6) [(0, .p), (1, .p), (2, .p), (3, .l), (4, .p), (5, .p)] rfl rfl ?_
  refine Run.move rfl E rfl rfl rfl ?_; clear E a; intro a E
  refine Run.nilCheck rfl E rfl rfl rfl ?_; clear E a; intro a E
  refine Run.fieldAddr rfl E rfl rfl rfl fo130_2 (rfl) ?_; clear E a; intro a E
  refine Run.load1 rfl rfl E S rfl rfl rfl one38 (fun _ s => roObj hg s rfl) ?_; clear E a; intro a E
  refine Run.len rfl E rfl rfl rfl Try.underlying38 ?_; clear E a; intro a E
  refine Run.assign rfl E rfl rfl rfl ?_; clear E a; intro a E
  refine Run.nil ?_
  refine then_n ?_
  refine wp_ret ?_
  exact ret1 E Try.results35 rfl ⟨rfl, S.belT⟩

theorem pile_most (H : HoldsAll w0 (Pile g A c B d lim most l bars)) : Calls Try.prog 46 [.pointer (some ⟨g, 0, none⟩)].toArray w0 (fun r w' => r = .returned (.int .i64 most) ∧ Bel w0 w') := by
  have S := St.nil [] w0
  obtain ⟨hg, ha, hb, -⟩ := H
  refine fn_start Try.func46 rfl 7 rfl rfl [(0, _)] ⟨rfl, trivial⟩ ?_; intro a E
  refine wp_seq ?_
  refine region_plain (n := 1) [(0, .p)] rfl rfl ?_
  refine Run.assign rfl E rfl rfl rfl ?_; clear E a; intro a E
  refine Run.nil ?_
  refine then_n ?_
  refine wp_seq ?_
  refine region_plain (n := 5) [(0, .p), (1, .p), (2, .p), (3, .l), (4, .p)] rfl rfl ?_
  refine Run.move rfl E rfl rfl rfl ?_; clear E a; intro a E
  refine Run.nilCheck rfl E rfl rfl rfl ?_; clear E a; intro a E
  refine Run.fieldAddr rfl E rfl rfl rfl fo130_1 (rfl) ?_; clear E a; intro a E
  refine Run.load1 rfl rfl E S rfl rfl rfl one3 (fun _ s => roObj hg s rfl) ?_; clear E a; intro a E
  refine Run.assign rfl E rfl rfl rfl ?_; clear E a; intro a E
  refine Run.nil ?_
  refine then_n ?_
  refine wp_ret ?_
  exact ret1 E Try.results46 rfl ⟨rfl, S.belT⟩

theorem top_none (H : HoldsAll w0 (Pile g A c B d lim most l bars)) (h0 : l.length = 0) : Calls Try.prog 32 [.pointer (some ⟨g, 0, none⟩)].toArray w0 (fun r w' => r = .returned (.tuple #[.agg #[.bool false, .int .i64 0, .int .i64 0, .int .i64 0, .int .i64 0, .int .i64 0], .bool false]) ∧ Bel w0 w') := by
  have S := St.nil [] w0
  obtain ⟨hg, ha, hb, -⟩ := H
  refine fn_start Try.func32 rfl 23 rfl rfl [(0, _)] ⟨rfl, trivial⟩ ?_; intro a E
  refine wp_seq ?_
  refine region_plain (n := 2) [(0, .e), (1, .p)] rfl rfl ?_
  refine Run.alloc rfl rfl E S rfl rfl z43 rfl ?_; clear E a S; intro b1 w a E S B_; clear B_
  refine Run.assign rfl E rfl rfl rfl ?_; clear E a; intro a E
  refine Run.nil ?_
  refine then_n ?_
  refine wp_seq ?_
  refine wp_seq ?_
  refine region_plain (n := 6) [(0, .p), (1, .p), (2, .p), (3, .l), (4, .p), (5, .p)] rfl rfl ?_
  refine Run.move rfl E rfl rfl rfl ?_; clear E a; intro a E
  refine Run.nilCheck rfl E rfl rfl rfl ?_; clear E a; intro a E
  refine Run.fieldAddr rfl E rfl rfl rfl fo130_2 (rfl) ?_; clear E a; intro a E
  refine Run.load1 rfl rfl E S rfl rfl rfl one38 (fun _ s => roObj hg s rfl) ?_; clear E a; intro a E
  refine Run.len rfl E rfl rfl rfl Try.underlying38 ?_; clear E a; intro a E
  refine Run.eqi rfl E rfl rfl rfl rfl (decide_eq_true (by omega)) ?_; clear E a; intro a E
  refine Run.nil ?_
  refine then_n ?_
  refine cond_T E rfl ?_
  refine wp_seq ?_
  refine region_plain (n := 3) [(0, .p), (1, .l), (2, .p)] rfl rfl ?_
  refine Run.build (cs := #[.bool false, .int .i64 0, .int .i64 0, .int .i64 0, .int .i64 0, .int .i64 0]) [] rfl E rfl rfl rfl rfl ?_; clear E a; intro a E
  refine Run.store (news := [.bool false, .int .i64 0, .int .i64 0, .int .i64 0, .int .i64 0, .int .i64 0]) (cs' := [_, _, _, _, _, _]) (hp' := [_]) 0 rfl E S rfl rfl rfl rfl rfl sz43 rfl rfl rfl rfl ?_; clear S; intro w S
  refine Run.assign rfl E rfl rfl rfl ?_; clear E a; intro a E
  refine Run.nil ?_
  refine then_n ?_
  refine wp_ret ?_
  refine then_r ?_
  exact retN E (vs := [.agg #[.bool false, .int .i64 0, .int .i64 0, .int .i64 0, .int .i64 0, .int .i64 0], .bool false]) Try.results32 (.cell (E.slot _ _ rfl) (run_loadVarAgg ag43 rfl (objAll S 0 rfl)) (.tmp (E.slot _ _ rfl) .nil)) rfl ⟨rfl, S.belT⟩

theorem top_some (H : HoldsAll w0 (Pile g A c B d lim most l bars)) (h0 : 0 < l.length) (hl : l.length ≤ 140737488355328) (he : l[l.length - 1]? = some e) : Calls Try.prog 32 [.pointer (some ⟨g, 0, none⟩)].toArray w0 (fun r w' => r = .returned (.tuple #[.agg #[.bool e.bar, .int .i64 e.pc, .int .i64 e.pos, .int .i64 e.mark, .int .i64 e.org, .int .i64 e.val], .bool true]) ∧ Bel w0 w') := by
  have S := St.nil [] w0
  obtain ⟨hg, ha, hb, -⟩ := H
  obtain ⟨bA, oA, rfl, hA⟩ := (Rd.of_row ha).place h0
  refine fn_start Try.func32 rfl 23 rfl rfl [(0, _)] ⟨rfl, trivial⟩ ?_; intro a E
  refine wp_seq ?_
  refine region_plain (n := 2) [(0, .e), (1, .p)] rfl rfl ?_
  refine Run.alloc rfl rfl E S rfl rfl z43 rfl ?_; clear E a S; intro b1 w a E S B_; clear B_
  refine Run.assign rfl E rfl rfl rfl ?_; clear E a; intro a E
  refine Run.nil ?_
  refine then_n ?_
  refine wp_seq ?_
  refine wp_seq ?_
  refine region_plain (n := 6) [(0, .p), (1, .p), (2, .p), (3, .l), (4, .p), (5, .p)] rfl rfl ?_
  refine Run.move rfl E rfl rfl rfl ?_; clear E a; intro a E
  refine Run.nilCheck rfl E rfl rfl rfl ?_; clear E a; intro a E
  refine Run.fieldAddr rfl E rfl rfl rfl fo130_2 (rfl) ?_; clear E a; intro a E
  refine Run.load1 rfl rfl E S rfl rfl rfl one38 (fun _ s => roObj hg s rfl) ?_; clear E a; intro a E
  refine Run.len rfl E rfl rfl rfl Try.underlying38 ?_; clear E a; intro a E
  refine Run.eqi rfl E rfl rfl rfl rfl (decide_eq_false (by omega)) ?_; clear E a; intro a E
  refine Run.nil ?_
  refine then_n ?_
  refine cond_F E rfl ?_
  refine wp_skip ?_
  refine then_n ?_
  refine wp_seq ?_
  refine region_drawS (n := 14) [(0, .p), (1, .p), (2, .p), (4, .p), (5, .p), (6, .p), (3, .t), (7, .t), (8, .p), (9, .p), (10, .p), (11, .t), (12, .l), (13, .p)] [0, 1, 3, 7, 0, 16, 48, 112, 240, 496, 1023, 2047, 4095, 8191] S mixed rfl rfl (by kernel_rfl) (fun _ _ _ _ _ h => h) ?_; clear S; intro w S B_; clear B_
  refine Run.move rfl E rfl rfl rfl ?_; clear E a; intro a E
  refine Run.nilCheck rfl E rfl rfl rfl ?_; clear E a; intro a E
  refine Run.fieldAddr rfl E rfl rfl rfl fo130_2 (rfl) ?_; clear E a; intro a E
  refine Run.move rfl E rfl rfl rfl ?_; clear E a; intro a E
  refine Run.nilCheck rfl E rfl rfl rfl ?_; clear E a; intro a E
  refine Run.fieldAddr rfl E rfl rfl rfl fo130_2 (rfl) ?_; clear E a; intro a E
  refine Run.load1 rfl rfl E S rfl rfl rfl one38 (fun _ s => roObj hg s rfl) ?_; clear E a; intro a E
  refine Run.load1 rfl rfl E S rfl rfl rfl one38 (fun _ s => roObj hg s rfl) ?_; clear E a; intro a E
  refine Run.len rfl E rfl rfl rfl Try.underlying38 ?_; clear E a; intro a E
  refine Run.sub rfl E rfl rfl rfl rfl (i64_ok (by omega)) ?_; clear E a; intro a E
  refine Run.indexAddr rfl E rfl rfl rfl rfl Try.underlying38 sz43 (by omega) (ix_at' (m' := (l.length - 1)) (by omega)) ?_; clear E a; intro a E
  refine Run.loadN (cs := [.bool e.bar, .int .i64 e.pc, .int .i64 e.pos, .int .i64 e.mark, .int .i64 e.org, .int .i64 e.val]) rfl rfl E S rfl rfl rfl ag43 rfl (fun _ s => rdAtL hA s _ _ (ents_get he)) ?_; clear E a; intro a E
  refine Run.store (news := [.bool e.bar, .int .i64 e.pc, .int .i64 e.pos, .int .i64 e.mark, .int .i64 e.org, .int .i64 e.val]) (cs' := [_, _, _, _, _, _]) (hp' := [_]) 0 rfl E S rfl rfl rfl rfl rfl sz43 rfl rfl rfl rfl ?_; clear S; intro w S
  refine Run.assign rfl E rfl rfl rfl ?_; clear E a; intro a E
  refine Run.nil ?_
  refine then_n ?_
  refine wp_ret ?_
  exact retN E (vs := [.agg #[.bool e.bar, .int .i64 e.pc, .int .i64 e.pos, .int .i64 e.mark, .int .i64 e.org, .int .i64 e.val], .bool true]) Try.results32 (.cell (E.slot _ _ rfl) (run_loadVarAgg ag43 rfl (objAll S 0 rfl)) (.tmp (E.slot _ _ rfl) .nil)) rfl ⟨rfl, S.belT⟩

theorem bar_none (H : HoldsAll w0 (Pile g A c B d lim most l bars)) (h0 : bars.length = 0) : Calls Try.prog 34 [.pointer (some ⟨g, 0, none⟩)].toArray w0 (fun r w' => r = .returned (.tuple #[.agg #[.bool false, .int .i64 0, .int .i64 0, .int .i64 0, .int .i64 0, .int .i64 0], .bool false]) ∧ Bel w0 w') := by
  have S := St.nil [] w0
  obtain ⟨hg, ha, hb, -⟩ := H
  refine fn_start Try.func34 rfl 29 rfl rfl [(0, _)] ⟨rfl, trivial⟩ ?_; intro a E
  refine wp_seq ?_
  refine region_plain (n := 2) [(0, .e), (1, .p)] rfl rfl ?_
  refine Run.alloc rfl rfl E S rfl rfl z43 rfl ?_; clear E a S; intro b1 w a E S B_; clear B_
  refine Run.assign rfl E rfl rfl rfl ?_; clear E a; intro a E
  refine Run.nil ?_
  refine then_n ?_
  refine wp_seq ?_
  refine wp_seq ?_
  refine region_plain (n := 6) [(0, .p), (1, .p), (2, .p), (3, .l), (4, .p), (5, .p)] rfl rfl ?_
  refine Run.move rfl E rfl rfl rfl ?_; clear E a; intro a E
  refine Run.nilCheck rfl E rfl rfl rfl ?_; clear E a; intro a E
  refine Run.fieldAddr rfl E rfl rfl rfl fo130_3 (rfl) ?_; clear E a; intro a E
  refine Run.load1 rfl rfl E S rfl rfl rfl one32 (fun _ s => roObj hg s rfl) ?_; clear E a; intro a E
  refine Run.len rfl E rfl rfl rfl Try.underlying32 ?_; clear E a; intro a E
  refine Run.eqi rfl E rfl rfl rfl rfl (decide_eq_true (by omega)) ?_; clear E a; intro a E
  refine Run.nil ?_
  refine then_n ?_
  refine cond_T E rfl ?_
  refine wp_seq ?_
  refine region_plain (n := 3) [(0, .p), (1, .l), (2, .p)] rfl rfl ?_
  refine Run.build (cs := #[.bool false, .int .i64 0, .int .i64 0, .int .i64 0, .int .i64 0, .int .i64 0]) [] rfl E rfl rfl rfl rfl ?_; clear E a; intro a E
  refine Run.store (news := [.bool false, .int .i64 0, .int .i64 0, .int .i64 0, .int .i64 0, .int .i64 0]) (cs' := [_, _, _, _, _, _]) (hp' := [_]) 0 rfl E S rfl rfl rfl rfl rfl sz43 rfl rfl rfl rfl ?_; clear S; intro w S
  refine Run.assign rfl E rfl rfl rfl ?_; clear E a; intro a E
  refine Run.nil ?_
  refine then_n ?_
  refine wp_ret ?_
  refine then_r ?_
  exact retN E (vs := [.agg #[.bool false, .int .i64 0, .int .i64 0, .int .i64 0, .int .i64 0, .int .i64 0], .bool false]) Try.results34 (.cell (E.slot _ _ rfl) (run_loadVarAgg ag43 rfl (objAll S 0 rfl)) (.tmp (E.slot _ _ rfl) .nil)) rfl ⟨rfl, S.belT⟩

theorem bar_some {k : Nat} (H : HoldsAll w0 (Pile g A c B d lim most l bars)) (h0 : 0 < bars.length) (hm : bars.length ≤ 140737488355328) (hl : l.length ≤ 140737488355328) (hk : bars[bars.length - 1]? = some (k : Int)) (he : l[k]? = some e) : Calls Try.prog 34 [.pointer (some ⟨g, 0, none⟩)].toArray w0 (fun r w' => r = .returned (.tuple #[.agg #[.bool e.bar, .int .i64 e.pc, .int .i64 e.pos, .int .i64 e.mark, .int .i64 e.org, .int .i64 e.val], .bool true]) ∧ Bel w0 w') := by
  have S := St.nil [] w0
  obtain ⟨hg, ha, hb, -⟩ := H
  have hkl : k < l.length := (List.getElem?_eq_some_iff.1 he).1
  obtain ⟨bA, oA, rfl, hA⟩ := (Rd.of_row ha).place (by omega)
  obtain ⟨bB, oB, rfl, hB⟩ := (Rd.of_row hb).place h0
  refine fn_start Try.func34 rfl 29 rfl rfl [(0, _)] ⟨rfl, trivial⟩ ?_; intro a E
  refine wp_seq ?_
  refine region_plain (n := 2) [(0, .e), (1, .p)] rfl rfl ?_
  refine Run.alloc rfl rfl E S rfl rfl z43 rfl ?_; clear E a S; intro b1 w a E S B_; clear B_
  refine Run.assign rfl E rfl rfl rfl ?_; clear E a; intro a E
  refine Run.nil ?_
  refine then_n ?_
  refine wp_seq ?_
  refine wp_seq ?_
  refine region_plain (n := 6) [(0, .p), (1, .p), (2, .p), (3, .l), (4, .p), (5, .p)] rfl rfl ?_
  refine Run.move rfl E rfl rfl rfl ?_; clear E a; intro a E
  refine Run.nilCheck rfl E rfl rfl rfl ?_; clear E a; intro a E
  refine Run.fieldAddr rfl E rfl rfl rfl fo130_3 (rfl) ?_; clear E a; intro a E
  refine Run.load1 rfl rfl E S rfl rfl rfl one32 (fun _ s => roObj hg s rfl) ?_; clear E a; intro a E
  refine Run.len rfl E rfl rfl rfl Try.underlying32 ?_; clear E a; intro a E
  refine Run.eqi rfl E rfl rfl rfl rfl (decide_eq_false (by omega)) ?_; clear E a; intro a E
  refine Run.nil ?_
  refine then_n ?_
  refine cond_F E rfl ?_
  refine wp_skip ?_
  refine then_n ?_
  refine wp_seq ?_
  refine region_drawS (n := 20) [(0, .p), (1, .p), (2, .p), (4, .p), (5, .p), (6, .p), (8, .p), (9, .p), (10, .p), (3, .t), (7, .t), (11, .t), (12, .p), (13, .p), (14, .p), (15, .t), (16, .p), (17, .t), (18, .l), (19, .p)] [0, 1, 3, 7, 0, 16, 48, 112, 0, 256, 768, 1792, 3840, 7936, 16368, 32752, 65535, 131071, 262143, 524287] S mixed rfl rfl (by kernel_rfl) (fun _ _ _ _ _ h => h) ?_; clear S; intro w S B_; clear B_
  refine Run.move rfl E rfl rfl rfl ?_; clear E a; intro a E
  refine Run.nilCheck rfl E rfl rfl rfl ?_; clear E a; intro a E
  refine Run.fieldAddr rfl E rfl rfl rfl fo130_2 (rfl) ?_; clear E a; intro a E
  refine Run.move rfl E rfl rfl rfl ?_; clear E a; intro a E
  refine Run.nilCheck rfl E rfl rfl rfl ?_; clear E a; intro a E
  refine Run.fieldAddr rfl E rfl rfl rfl fo130_3 (rfl) ?_; clear E a; intro a E
  refine Run.move rfl E rfl rfl rfl ?_; clear E a; intro a E
  refine Run.nilCheck rfl E rfl rfl rfl ?_; clear E a; intro a E
  refine Run.fieldAddr rfl E rfl rfl rfl fo130_3 (rfl) ?_; clear E a; intro a E
  refine Run.load1 rfl rfl E S rfl rfl rfl one38 (fun _ s => roObj hg s rfl) ?_; clear E a; intro a E
  refine Run.load1 rfl rfl E S rfl rfl rfl one32 (fun _ s => roObj hg s rfl) ?_; clear E a; intro a E
  refine Run.load1 rfl rfl E S rfl rfl rfl one32 (fun _ s => roObj hg s rfl) ?_; clear E a; intro a E
  refine Run.len rfl E rfl rfl rfl Try.underlying32 ?_; clear E a; intro a E
  refine Run.sub rfl E rfl rfl rfl rfl (i64_ok (by omega)) ?_; clear E a; intro a E
  refine Run.indexAddr rfl E rfl rfl rfl rfl Try.underlying32 sz3 (by omega) (ix_at1 (m' := (bars.length - 1)) (by omega)) ?_; clear E a; intro a E
  refine Run.load1 rfl rfl E S rfl rfl rfl one3 (fun _ s => rdAt1 hB s (ints_get' hk)) ?_; clear E a; intro a E
  refine Run.indexAddr rfl E rfl rfl rfl rfl Try.underlying38 sz43 (by omega) (ix_at' (m' := k) (by omega)) ?_; clear E a; intro a E
  refine Run.loadN (cs := [.bool e.bar, .int .i64 e.pc, .int .i64 e.pos, .int .i64 e.mark, .int .i64 e.org, .int .i64 e.val]) rfl rfl E S rfl rfl rfl ag43 rfl (fun _ s => rdAtL hA s _ _ (ents_get he)) ?_; clear E a; intro a E
  refine Run.store (news := [.bool e.bar, .int .i64 e.pc, .int .i64 e.pos, .int .i64 e.mark, .int .i64 e.org, .int .i64 e.val]) (cs' := [_, _, _, _, _, _]) (hp' := [_]) 0 rfl E S rfl rfl rfl rfl rfl sz43 rfl rfl rfl rfl ?_; clear S; intro w S
  refine Run.assign rfl E rfl rfl rfl ?_; clear E a; intro a E
  refine Run.nil ?_
  refine then_n ?_
  refine wp_ret ?_
  exact retN E (vs := [.agg #[.bool e.bar, .int .i64 e.pc, .int .i64 e.pos, .int .i64 e.mark, .int .i64 e.org, .int .i64 e.val], .bool true]) Try.results34 (.cell (E.slot _ _ rfl) (run_loadVarAgg ag43 rfl (objAll S 0 rfl)) (.tmp (E.slot _ _ rfl) .nil)) rfl ⟨rfl, S.belT⟩

theorem push_full (H : Own w0 (Pile g A c B d lim most l bars)) (hf : lim ≤ (l.length : Int)) : Calls Try.prog 30 [.pointer (some ⟨g, 0, none⟩), .agg #[.bool e.bar, .int .i64 e.pc, .int .i64 e.pos, .int .i64 e.mark, .int .i64 e.org, .int .i64 e.val]].toArray w0 (fun r w' => r = .returned (.bool false) ∧ St (fps (Pile g A c B d lim most l bars)) w0 w' (Pile g A c B d lim most l bars)) := by
  have S := H.st
  unfold Pile at S ⊢
  refine fn_start Try.func30 rfl 54 rfl rfl [(0, _), (1, _)] ⟨rfl, rfl, trivial⟩ ?_; intro a E
  refine wp_seq ?_
  refine region_plain (n := 2) [(0, .e), (1, .p)] rfl rfl ?_
  refine Run.box (cs := [.bool e.bar, .int .i64 e.pc, .int .i64 e.pos, .int .i64 e.mark, .int .i64 e.org, .int .i64 e.val]) rfl rfl E S rfl rfl rfl rfl ?_; clear E a S; intro b1 w a E S B_; clear B_
  refine Run.assign rfl E rfl rfl rfl ?_; clear E a; intro a E
  refine Run.nil ?_
  refine then_n ?_
  refine wp_seq ?_
  refine wp_seq ?_
  refine region_drawS (n := 10) [(0, .p), (1, .p), (2, .p), (5, .p), (6, .p), (7, .p), (3, .t), (4, .p), (8, .t), (9, .p)] [0, 1, 3, 7, 15, 0, 32, 96, 224, 511] S mixed rfl rfl (by kernel_rfl) (fun _ _ _ _ _ h => h) ?_; clear S; intro w S B_; clear B_
  refine Run.move rfl E rfl rfl rfl ?_; clear E a; intro a E
  refine Run.nilCheck rfl E rfl rfl rfl ?_; clear E a; intro a E
  refine Run.fieldAddr rfl E rfl rfl rfl fo130_2 (rfl) ?_; clear E a; intro a E
  refine Run.move rfl E rfl rfl rfl ?_; clear E a; intro a E
  refine Run.nilCheck rfl E rfl rfl rfl ?_; clear E a; intro a E
  refine Run.fieldAddr rfl E rfl rfl rfl fo130_0 (rfl) ?_; clear E a; intro a E
  refine Run.load1 rfl rfl E S rfl rfl rfl one38 (fun _ s => s.objCell 1 2 rfl rfl) ?_; clear E a; intro a E
  refine Run.len rfl E rfl rfl rfl Try.underlying38 ?_; clear E a; intro a E
  refine Run.load1 rfl rfl E S rfl rfl rfl one3 (fun _ s => s.objCell 1 0 rfl rfl) ?_; clear E a; intro a E
  refine Run.geq rfl E rfl rfl rfl rfl (decide_eq_true (by omega)) ?_; clear E a; intro a E
  refine Run.nil ?_
  refine then_n ?_
  refine cond_T E rfl ?_
  refine wp_seq ?_
  refine region_plain (n := 1) [(0, .p)] rfl rfl ?_
  refine Run.assign rfl E rfl rfl rfl ?_; clear E a; intro a E
  refine Run.nil ?_
  refine then_n ?_
  refine wp_ret ?_
  refine then_r ?_
  exact ret1 E Try.results30 rfl ⟨rfl, S.drop1⟩

theorem push_plain {mx : Int} {l' : List Ent} (H : Own w0 (Pile g A c B d lim most l bars)) (hf : (l.length : Int) < lim) (hl : lim ≤ 65536) (hm : bars.length ≤ l.length) (he : e.bar = false) (hmx : (if ((l.length + 1 : Nat) : Int) > most then ((l.length + 1 : Nat) : Int) else most) = mx) (hl' : l ++ [e] = l') : Calls Try.prog 30 [.pointer (some ⟨g, 0, none⟩), .agg #[.bool false, .int .i64 e.pc, .int .i64 e.pos, .int .i64 e.mark, .int .i64 e.org, .int .i64 e.val]].toArray w0 (fun r w' => r = .returned (.bool true) ∧ ∃ A' c' B' d', St (fps (Pile g A c B d lim most l bars)) w0 w' (Pile g A' c' B' d' lim mx l' bars)) := by
  have S := H.st
  unfold Pile at S
  have ec : e.cells = [.bool false, .int .i64 e.pc, .int .i64 e.pos, .int .i64 e.mark, .int .i64 e.org, .int .i64 e.val] := by unfold Ent.cells; rw [he]
  refine fn_start Try.func30 rfl 54 rfl rfl [(0, _), (1, _)] ⟨rfl, rfl, trivial⟩ ?_; intro a E
  refine wp_seq ?_
  refine region_plain (n := 2) [(0, .e), (1, .p)] rfl rfl ?_
  refine Run.box (cs := [.bool false, .int .i64 e.pc, .int .i64 e.pos, .int .i64 e.mark, .int .i64 e.org, .int .i64 e.val]) rfl rfl E S rfl rfl rfl rfl ?_; clear E a S; intro b1 w a E S B_; clear B_
  refine Run.assign rfl E rfl rfl rfl ?_; clear E a; intro a E
  refine Run.nil ?_
  refine then_n ?_
  refine wp_seq ?_
  refine wp_seq ?_
  refine region_drawS (n := 10) [(0, .p), (1, .p), (2, .p), (5, .p), (6, .p), (7, .p), (3, .t), (4, .p), (8, .t), (9, .p)] [0, 1, 3, 7, 15, 0, 32, 96, 224, 511] S mixed rfl rfl (by kernel_rfl) (fun _ _ _ _ _ h => h) ?_; clear S; intro w S B_; clear B_
  refine Run.move rfl E rfl rfl rfl ?_; clear E a; intro a E
  refine Run.nilCheck rfl E rfl rfl rfl ?_; clear E a; intro a E
  refine Run.fieldAddr rfl E rfl rfl rfl fo130_2 (rfl) ?_; clear E a; intro a E
  refine Run.move rfl E rfl rfl rfl ?_; clear E a; intro a E
  refine Run.nilCheck rfl E rfl rfl rfl ?_; clear E a; intro a E
  refine Run.fieldAddr rfl E rfl rfl rfl fo130_0 (rfl) ?_; clear E a; intro a E
  refine Run.load1 rfl rfl E S rfl rfl rfl one38 (fun _ s => s.objCell 1 2 rfl rfl) ?_; clear E a; intro a E
  refine Run.len rfl E rfl rfl rfl Try.underlying38 ?_; clear E a; intro a E
  refine Run.load1 rfl rfl E S rfl rfl rfl one3 (fun _ s => s.objCell 1 0 rfl rfl) ?_; clear E a; intro a E
  refine Run.geq rfl E rfl rfl rfl rfl (decide_eq_false (by omega)) ?_; clear E a; intro a E
  refine Run.nil ?_
  refine then_n ?_
  refine cond_F E rfl ?_
  refine wp_skip ?_
  refine then_n ?_
  refine wp_seq ?_
  refine wp_seq ?_
  refine region_plain (n := 2) [(0, .p), (1, .l)] rfl rfl ?_
  refine Run.fieldAddr rfl E rfl rfl rfl fo43_0 (rfl) ?_; clear E a; intro a E
  refine Run.load1 rfl rfl E S rfl rfl rfl one4 (fun _ s => s.objCell 0 0 rfl rfl) ?_; clear E a; intro a E
  refine Run.nil ?_
  refine then_n ?_
  refine cond_F E rfl ?_
  refine wp_skip ?_
  refine then_n ?_
  refine wp_seq ?_
  refine region_drawS (n := 11) [(0, .p), (1, .p), (2, .p), (3, .p), (4, .t), (5, .t), (6, .e), (7, .l), (8, .p), (9, .p), (10, .l)] [0, 0, 2, 6, 14, 0, 32, 126, 255, 511, 1023] S mixed rfl rfl (by kernel_rfl) (fun _ _ _ _ _ h => h) ?_; clear S; intro w S B_; clear B_
  refine Run.move rfl E rfl rfl rfl ?_; clear E a; intro a E
  refine Run.move rfl E rfl rfl rfl ?_; clear E a; intro a E
  refine Run.nilCheck rfl E rfl rfl rfl ?_; clear E a; intro a E
  refine Run.fieldAddr rfl E rfl rfl rfl fo130_2 (rfl) ?_; clear E a; intro a E
  refine Run.load1 rfl rfl E S rfl rfl rfl one38 (fun _ s => s.objCell 1 2 rfl rfl) ?_; clear E a; intro a E
  refine Run.loadN (cs := [.bool false, .int .i64 e.pc, .int .i64 e.pos, .int .i64 e.mark, .int .i64 e.org, .int .i64 e.val]) rfl rfl E S rfl rfl rfl ag43 rfl (fun _ s => objAll s 0 rfl) ?_; clear E a; intro a E
  refine Run.buildSlice (cs := [.bool false, .int .i64 e.pc, .int .i64 e.pos, .int .i64 e.mark, .int .i64 e.org, .int .i64 e.val]) [(0, .agg #[.bool false, .int .i64 e.pc, .int .i64 e.pos, .int .i64 e.mark, .int .i64 e.org, .int .i64 e.val])] rfl rfl E S rfl rfl rfl Try.underlying38 (by kernel_rfl) ?_; clear E a S; intro b2 w a E S B_; clear B_
  refine Run.append (news := [.bool false, .int .i64 e.pc, .int .i64 e.pos, .int .i64 e.mark, .int .i64 e.org, .int .i64 e.val]) (nm := l.length + 1) 3 rfl E S rfl rfl rfl rfl rfl Try.underlying38 I43 rfl rfl rfl (objNews S 0 rfl) (by simp [Value.oneCell']) (by omega) (by omega) (by omega) ?_; clear E a S; intro A3 c4 w a E S
  replace S : St _ _ _ [.obj _ _ [_, _, _, _, _, _], .obj _ _ [_, _, _, _, _, _], .obj _ _ [_, _, _, _], _, _] := S
  refine Run.nilCheck rfl E rfl rfl rfl ?_; clear E a; intro a E
  refine Run.fieldAddr rfl E rfl rfl rfl fo130_2 (rfl) ?_; clear E a; intro a E
  refine Run.store (news := [.slice A3 (l.length + 1) c4]) (cs' := [_, _, _, _]) (hp' := [_, _, _, _, _]) 2 rfl E S rfl rfl rfl rfl rfl sz38 rfl rfl rfl rfl ?_; clear S; intro w S
  refine Run.nil ?_
  refine then_n ?_
  refine wp_seq ?_
  refine region_drawS (n := 14) [(0, .p), (1, .p), (2, .p), (3, .p), (5, .p), (6, .p), (7, .p), (4, .t), (8, .t), (9, .p), (10, .p), (11, .p), (12, .p), (13, .l)] [0, 0, 2, 6, 14, 0, 32, 96, 224, 480, 1022, 2047, 4095, 8191] S mixed rfl rfl (by kernel_rfl) (fun _ _ _ _ _ h => h) ?_; clear S; intro w S B_; clear B_
  refine Run.move rfl E rfl rfl rfl ?_; clear E a; intro a E
  refine Run.move rfl E rfl rfl rfl ?_; clear E a; intro a E
  refine Run.nilCheck rfl E rfl rfl rfl ?_; clear E a; intro a E
  refine Run.fieldAddr rfl E rfl rfl rfl fo130_1 (rfl) ?_; clear E a; intro a E
  refine Run.move rfl E rfl rfl rfl ?_; clear E a; intro a E
  refine Run.nilCheck rfl E rfl rfl rfl ?_; clear E a; intro a E
  refine Run.fieldAddr rfl E rfl rfl rfl fo130_2 (rfl) ?_; clear E a; intro a E
  refine Run.load1 rfl rfl E S rfl rfl rfl one3 (fun _ s => s.objCell 2 1 rfl rfl) ?_; clear E a; intro a E
  refine Run.load1 rfl rfl E S rfl rfl rfl one38 (fun _ s => s.objCell 2 2 rfl rfl) ?_; clear E a; intro a E
  refine Run.len rfl E rfl rfl rfl Try.underlying38 ?_; clear E a; intro a E
  refine Run.max rfl E rfl rfl rfl rfl (q := (if ((l.length + 1 : Nat) : Int) > most then ((l.length + 1 : Nat) : Int) else most)) (rfl) ?_; clear E a; intro a E
  refine Run.nilCheck rfl E rfl rfl rfl ?_; clear E a; intro a E
  refine Run.fieldAddr rfl E rfl rfl rfl fo130_1 (rfl) ?_; clear E a; intro a E
  refine Run.store (news := [.int .i64 (if ((l.length + 1 : Nat) : Int) > most then ((l.length + 1 : Nat) : Int) else most)]) (cs' := [_, _, _, _]) (hp' := [_, _, _, _, _]) 2 rfl E S rfl rfl rfl rfl rfl sz3 rfl rfl rfl rfl ?_; clear S; intro w S
  refine Run.nil ?_
  refine then_n ?_
  refine wp_seq ?_
  refine region_plain (n := 1) [(0, .p)] rfl rfl ?_
  refine Run.assign rfl E rfl rfl rfl ?_; clear E a; intro a E
  refine Run.nil ?_
  refine then_n ?_
  refine wp_ret ?_
  have S : St _ _ _ [_, _, _, _, _] := S.sel [0, 1, 2, 3, 4] _ rfl rfl
  have S := S.drop1.drop1
  subst hmx hl'
  have e1 : (l ++ [e]).length = l.length + 1 := by simp
  refine ret1 E Try.results30 rfl ⟨rfl, A3, c4, B, d, ?_⟩
  unfold Pile; rw [e1, ← ents_snoc, ec]; exact S

theorem push_bar {mx : Int} {l' : List Ent} {bars' : List Int} (H : Own w0 (Pile g A c B d lim most l bars)) (hf : (l.length : Int) < lim) (hl : lim ≤ 65536) (hm : bars.length ≤ l.length) (he : e.bar = true) (hmx : (if ((l.length + 1 : Nat) : Int) > most then ((l.length + 1 : Nat) : Int) else most) = mx) (hl' : l ++ [e] = l') (hb' : bars ++ [(l.length : Int)] = bars') : Calls Try.prog 30 [.pointer (some ⟨g, 0, none⟩), .agg #[.bool true, .int .i64 e.pc, .int .i64 e.pos, .int .i64 e.mark, .int .i64 e.org, .int .i64 e.val]].toArray w0 (fun r w' => r = .returned (.bool true) ∧ ∃ A' c' B' d', St (fps (Pile g A c B d lim most l bars)) w0 w' (Pile g A' c' B' d' lim mx l' bars')) := by
  have S := H.st
  unfold Pile at S
  have ec : e.cells = [.bool true, .int .i64 e.pc, .int .i64 e.pos, .int .i64 e.mark, .int .i64 e.org, .int .i64 e.val] := by unfold Ent.cells; rw [he]
  refine fn_start Try.func30 rfl 54 rfl rfl [(0, _), (1, _)] ⟨rfl, rfl, trivial⟩ ?_; intro a E
  refine wp_seq ?_
  refine region_plain (n := 2) [(0, .e), (1, .p)] rfl rfl ?_
  refine Run.box (cs := [.bool true, .int .i64 e.pc, .int .i64 e.pos, .int .i64 e.mark, .int .i64 e.org, .int .i64 e.val]) rfl rfl E S rfl rfl rfl rfl ?_; clear E a S; intro b1 w a E S B_; clear B_
  refine Run.assign rfl E rfl rfl rfl ?_; clear E a; intro a E
  refine Run.nil ?_
  refine then_n ?_
  refine wp_seq ?_
  refine wp_seq ?_
  refine region_drawS (n := 10) [(0, .p), (1, .p), (2, .p), (5, .p), (6, .p), (7, .p), (3, .t), (4, .p), (8, .t), (9, .p)] [0, 1, 3, 7, 15, 0, 32, 96, 224, 511] S mixed rfl rfl (by kernel_rfl) (fun _ _ _ _ _ h => h) ?_; clear S; intro w S B_; clear B_
  refine Run.move rfl E rfl rfl rfl ?_; clear E a; intro a E
  refine Run.nilCheck rfl E rfl rfl rfl ?_; clear E a; intro a E
  refine Run.fieldAddr rfl E rfl rfl rfl fo130_2 (rfl) ?_; clear E a; intro a E
  refine Run.move rfl E rfl rfl rfl ?_; clear E a; intro a E
  refine Run.nilCheck rfl E rfl rfl rfl ?_; clear E a; intro a E
  refine Run.fieldAddr rfl E rfl rfl rfl fo130_0 (rfl) ?_; clear E a; intro a E
  refine Run.load1 rfl rfl E S rfl rfl rfl one38 (fun _ s => s.objCell 1 2 rfl rfl) ?_; clear E a; intro a E
  refine Run.len rfl E rfl rfl rfl Try.underlying38 ?_; clear E a; intro a E
  refine Run.load1 rfl rfl E S rfl rfl rfl one3 (fun _ s => s.objCell 1 0 rfl rfl) ?_; clear E a; intro a E
  refine Run.geq rfl E rfl rfl rfl rfl (decide_eq_false (by omega)) ?_; clear E a; intro a E
  refine Run.nil ?_
  refine then_n ?_
  refine cond_F E rfl ?_
  refine wp_skip ?_
  refine then_n ?_
  refine wp_seq ?_
  refine wp_seq ?_
  refine region_plain (n := 2) [(0, .p), (1, .l)] rfl rfl ?_
  refine Run.fieldAddr rfl E rfl rfl rfl fo43_0 (rfl) ?_; clear E a; intro a E
  refine Run.load1 rfl rfl E S rfl rfl rfl one4 (fun _ s => s.objCell 0 0 rfl rfl) ?_; clear E a; intro a E
  refine Run.nil ?_
  refine then_n ?_
  refine cond_T E rfl ?_
  refine region_drawS (n := 15) [(0, .p), (1, .p), (2, .p), (3, .p), (5, .p), (6, .p), (7, .p), (4, .t), (8, .t), (9, .p), (10, .e), (11, .l), (12, .p), (13, .p), (14, .l)] [0, 0, 2, 6, 14, 0, 32, 96, 224, 480, 992, 2046, 4095, 8191, 16383] S mixed rfl rfl (by kernel_rfl) (fun _ _ _ _ _ h => h) ?_; clear S; intro w S B_; clear B_
  refine Run.move rfl E rfl rfl rfl ?_; clear E a; intro a E
  refine Run.move rfl E rfl rfl rfl ?_; clear E a; intro a E
  refine Run.nilCheck rfl E rfl rfl rfl ?_; clear E a; intro a E
  refine Run.fieldAddr rfl E rfl rfl rfl fo130_3 (rfl) ?_; clear E a; intro a E
  refine Run.move rfl E rfl rfl rfl ?_; clear E a; intro a E
  refine Run.nilCheck rfl E rfl rfl rfl ?_; clear E a; intro a E
  refine Run.fieldAddr rfl E rfl rfl rfl fo130_2 (rfl) ?_; clear E a; intro a E
  refine Run.load1 rfl rfl E S rfl rfl rfl one32 (fun _ s => s.objCell 1 3 rfl rfl) ?_; clear E a; intro a E
  refine Run.load1 rfl rfl E S rfl rfl rfl one38 (fun _ s => s.objCell 1 2 rfl rfl) ?_; clear E a; intro a E
  refine Run.len rfl E rfl rfl rfl Try.underlying38 ?_; clear E a; intro a E
  refine Run.buildSlice (cs := [.int .i64 (l.length : Int)]) [(0, .int .i64 (l.length : Int))] rfl rfl E S rfl rfl rfl Try.underlying32 (by kernel_rfl) ?_; clear E a S; intro b2 w a E S B_; clear B_
  refine Run.append (news := [.int .i64 (l.length : Int)]) (nm := bars.length + 1) 4 rfl E S rfl rfl rfl rfl rfl Try.underlying32 I3 rfl rfl rfl (objNews S 0 rfl) (by simp [Value.oneCell']) (by omega) (by omega) (by omega) ?_; clear E a S; intro A3 c4 w a E S
  replace S : St _ _ _ [.obj _ _ [_], .obj _ _ [_, _, _, _, _, _], .obj _ _ [_, _, _, _], _, _] := S
  refine Run.nilCheck rfl E rfl rfl rfl ?_; clear E a; intro a E
  refine Run.fieldAddr rfl E rfl rfl rfl fo130_3 (rfl) ?_; clear E a; intro a E
  refine Run.store (news := [.slice A3 (bars.length + 1) c4]) (cs' := [_, _, _, _]) (hp' := [_, _, _, _, _]) 2 rfl E S rfl rfl rfl rfl rfl sz32 rfl rfl rfl rfl ?_; clear S; intro w S
  refine Run.nil ?_
  refine then_n ?_
  refine wp_seq ?_
  refine region_drawS (n := 11) [(0, .p), (1, .p), (2, .p), (3, .p), (4, .t), (5, .t), (6, .e), (7, .l), (8, .p), (9, .p), (10, .l)] [0, 0, 2, 6, 14, 0, 32, 126, 255, 511, 1023] S mixed rfl rfl (by kernel_rfl) (fun _ _ _ _ _ h => h) ?_; clear S; intro w S B_; clear B_
  refine Run.move rfl E rfl rfl rfl ?_; clear E a; intro a E
  refine Run.move rfl E rfl rfl rfl ?_; clear E a; intro a E
  refine Run.nilCheck rfl E rfl rfl rfl ?_; clear E a; intro a E
  refine Run.fieldAddr rfl E rfl rfl rfl fo130_2 (rfl) ?_; clear E a; intro a E
  refine Run.load1 rfl rfl E S rfl rfl rfl one38 (fun _ s => s.objCell 2 2 rfl rfl) ?_; clear E a; intro a E
  refine Run.loadN (cs := [.bool true, .int .i64 e.pc, .int .i64 e.pos, .int .i64 e.mark, .int .i64 e.org, .int .i64 e.val]) rfl rfl E S rfl rfl rfl ag43 rfl (fun _ s => objAll s 1 rfl) ?_; clear E a; intro a E
  refine Run.buildSlice (cs := [.bool true, .int .i64 e.pc, .int .i64 e.pos, .int .i64 e.mark, .int .i64 e.org, .int .i64 e.val]) [(0, .agg #[.bool true, .int .i64 e.pc, .int .i64 e.pos, .int .i64 e.mark, .int .i64 e.org, .int .i64 e.val])] rfl rfl E S rfl rfl rfl Try.underlying38 (by kernel_rfl) ?_; clear E a S; intro b5 w a E S B_; clear B_
  refine Run.append (news := [.bool true, .int .i64 e.pc, .int .i64 e.pos, .int .i64 e.mark, .int .i64 e.org, .int .i64 e.val]) (nm := l.length + 1) 4 rfl E S rfl rfl rfl rfl rfl Try.underlying38 I43 rfl rfl rfl (objNews S 0 rfl) (by simp [Value.oneCell']) (by omega) (by omega) (by omega) ?_; clear E a S; intro A6 c7 w a E S
  replace S : St _ _ _ [.obj _ _ [_, _, _, _, _, _], .obj _ _ [_], .obj _ _ [_, _, _, _, _, _], .obj _ _ [_, _, _, _], _, _] := S
  refine Run.nilCheck rfl E rfl rfl rfl ?_; clear E a; intro a E
  refine Run.fieldAddr rfl E rfl rfl rfl fo130_2 (rfl) ?_; clear E a; intro a E
  refine Run.store (news := [.slice A6 (l.length + 1) c7]) (cs' := [_, _, _, _]) (hp' := [_, _, _, _, _, _]) 3 rfl E S rfl rfl rfl rfl rfl sz38 rfl rfl rfl rfl ?_; clear S; intro w S
  refine Run.nil ?_
  refine then_n ?_
  refine wp_seq ?_
  refine region_drawS (n := 14) [(0, .p), (1, .p), (2, .p), (3, .p), (5, .p), (6, .p), (7, .p), (4, .t), (8, .t), (9, .p), (10, .p), (11, .p), (12, .p), (13, .l)] [0, 0, 2, 6, 14, 0, 32, 96, 224, 480, 1022, 2047, 4095, 8191] S mixed rfl rfl (by kernel_rfl) (fun _ _ _ _ _ h => h) ?_; clear S; intro w S B_; clear B_
  refine Run.move rfl E rfl rfl rfl ?_; clear E a; intro a E
  refine Run.move rfl E rfl rfl rfl ?_; clear E a; intro a E
  refine Run.nilCheck rfl E rfl rfl rfl ?_; clear E a; intro a E
  refine Run.fieldAddr rfl E rfl rfl rfl fo130_1 (rfl) ?_; clear E a; intro a E
  refine Run.move rfl E rfl rfl rfl ?_; clear E a; intro a E
  refine Run.nilCheck rfl E rfl rfl rfl ?_; clear E a; intro a E
  refine Run.fieldAddr rfl E rfl rfl rfl fo130_2 (rfl) ?_; clear E a; intro a E
  refine Run.load1 rfl rfl E S rfl rfl rfl one3 (fun _ s => s.objCell 3 1 rfl rfl) ?_; clear E a; intro a E
  refine Run.load1 rfl rfl E S rfl rfl rfl one38 (fun _ s => s.objCell 3 2 rfl rfl) ?_; clear E a; intro a E
  refine Run.len rfl E rfl rfl rfl Try.underlying38 ?_; clear E a; intro a E
  refine Run.max rfl E rfl rfl rfl rfl (q := (if ((l.length + 1 : Nat) : Int) > most then ((l.length + 1 : Nat) : Int) else most)) (rfl) ?_; clear E a; intro a E
  refine Run.nilCheck rfl E rfl rfl rfl ?_; clear E a; intro a E
  refine Run.fieldAddr rfl E rfl rfl rfl fo130_1 (rfl) ?_; clear E a; intro a E
  refine Run.store (news := [.int .i64 (if ((l.length + 1 : Nat) : Int) > most then ((l.length + 1 : Nat) : Int) else most)]) (cs' := [_, _, _, _]) (hp' := [_, _, _, _, _, _]) 3 rfl E S rfl rfl rfl rfl rfl sz3 rfl rfl rfl rfl ?_; clear S; intro w S
  refine Run.nil ?_
  refine then_n ?_
  refine wp_seq ?_
  refine region_plain (n := 1) [(0, .p)] rfl rfl ?_
  refine Run.assign rfl E rfl rfl rfl ?_; clear E a; intro a E
  refine Run.nil ?_
  refine then_n ?_
  refine wp_ret ?_
  have S : St _ _ _ [_, _, _, _, _, _] := S.sel [0, 1, 2, 3, 4, 5] _ rfl rfl
  have S := S.drop1.drop1.drop1
  subst hmx hl' hb'
  have e1 : (l ++ [e]).length = l.length + 1 := by simp
  have e2 : (bars ++ [(l.length : Int)]).length = bars.length + 1 := by simp
  refine ret1 E Try.results30 rfl ⟨rfl, A6, c7, A3, c4, ?_⟩
  unfold Pile; rw [e1, ← ents_snoc, ec, e2, ← ints_snoc]; exact S

theorem pop_none (H : Own w0 (Pile g A c B d lim most l bars)) (h0 : l.length = 0) : Calls Try.prog 45 [.pointer (some ⟨g, 0, none⟩)].toArray w0 (fun r w' => r = .returned (.tuple #[.agg #[.bool false, .int .i64 0, .int .i64 0, .int .i64 0, .int .i64 0, .int .i64 0], .bool false]) ∧ St (fps (Pile g A c B d lim most l bars)) w0 w' (Pile g A c B d lim most l bars)) := by
  have S := H.st
  unfold Pile at S
  refine fn_start Try.func45 rfl 45 rfl rfl [(0, _)] ⟨rfl, trivial⟩ ?_; intro a E
  refine wp_seq ?_
  refine region_plain (n := 2) [(0, .e), (1, .p)] rfl rfl ?_
  refine Run.alloc rfl rfl E S rfl rfl z43 rfl ?_; clear E a S; intro b1 w a E S B_; clear B_
  refine Run.assign rfl E rfl rfl rfl ?_; clear E a; intro a E
  refine Run.nil ?_
  refine then_n ?_
  refine wp_seq ?_
  refine region_plain (n := 8) [(0, .p), (1, .e), (2, .p), (3, .p), (4, .p), (5, .e), (6, .l), (7, .p)] rfl rfl ?_
  refine Run.move rfl E rfl rfl rfl ?_; clear E a; intro a E
  refine Run.call (args := [.pointer (some ⟨g, 0, none⟩)]) rfl rfl E rfl rfl Try.func32 nm32 rfl rfl (top_none (St.holdsL (A := Pile g A c B d lim most l bars) (R := [_]) (S.sel [1, 2, 3, 0] (Pile g A c B d lim most l bars ++ [_]) rfl rfl)) h0) ?_; rintro e_ w ⟨rfl, B_⟩; refine ⟨_, rfl, fun _ => B_, ?_⟩; clear E a; replace S := S.bel B_; intro a E
  clear B_
  refine Run.move rfl E rfl rfl rfl ?_; clear E a; intro a E
  refine Run.extract rfl E rfl rfl rfl rfl ?_; clear E a; intro a E
  refine Run.extract rfl E rfl rfl rfl rfl ?_; clear E a; intro a E
  refine Run.alloc rfl rfl E S rfl rfl z43 rfl ?_; clear E a S; intro b2 w a E S B_; clear B_
  refine Run.store (news := [.bool false, .int .i64 0, .int .i64 0, .int .i64 0, .int .i64 0, .int .i64 0]) (cs' := [_, _, _, _, _, _]) (hp' := [_, _, _, _, _]) 0 rfl E S rfl rfl rfl rfl rfl sz43 rfl rfl rfl rfl ?_; clear S; intro w S
  refine Run.assign rfl E rfl rfl rfl ?_; clear E a; intro a E
  refine Run.nil ?_
  refine then_n ?_
  refine wp_seq ?_
  refine wp_seq ?_
  refine region_plain (n := 2) [(0, .p), (1, .p)] rfl rfl ?_
  refine Run.move rfl E rfl rfl rfl ?_; clear E a; intro a E
  refine Run.not rfl E rfl rfl rfl rfl ?_; clear E a; intro a E
  refine Run.nil ?_
  refine then_n ?_
  refine cond_T E rfl ?_
  refine wp_seq ?_
  refine region_plain (n := 3) [(0, .p), (1, .l), (2, .p)] rfl rfl ?_
  refine Run.build (cs := #[.bool false, .int .i64 0, .int .i64 0, .int .i64 0, .int .i64 0, .int .i64 0]) [] rfl E rfl rfl rfl rfl ?_; clear E a; intro a E
  refine Run.store (news := [.bool false, .int .i64 0, .int .i64 0, .int .i64 0, .int .i64 0, .int .i64 0]) (cs' := [_, _, _, _, _, _]) (hp' := [_, _, _, _, _]) 1 rfl E S rfl rfl rfl rfl rfl sz43 rfl rfl rfl rfl ?_; clear S; intro w S
  refine Run.assign rfl E rfl rfl rfl ?_; clear E a; intro a E
  refine Run.nil ?_
  refine then_n ?_
  refine wp_ret ?_
  refine then_r ?_
  skip
  refine retN E (vs := [.agg #[.bool false, .int .i64 0, .int .i64 0, .int .i64 0, .int .i64 0, .int .i64 0], .bool false]) Try.results45 (.cell (E.slot _ _ rfl) (run_loadVarAgg ag43 rfl (objAll S 1 rfl)) (.tmp (E.slot _ _ rfl) .nil)) rfl ⟨rfl, ?_⟩
  have S : St _ _ _ [_, _, _, _, _] := S.sel [0, 1, 2, 3, 4] _ rfl rfl
  have S := S.drop1.drop1
  exact S

theorem cut_none (H : Own w0 (Pile g A c B d lim most l bars)) (h0 : bars.length = 0) : Calls Try.prog 31 [.pointer (some ⟨g, 0, none⟩)].toArray w0 (fun r w' => r = .returned (.tuple #[.agg #[.bool false, .int .i64 0, .int .i64 0, .int .i64 0, .int .i64 0, .int .i64 0], .bool false]) ∧ St (fps (Pile g A c B d lim most l bars)) w0 w' (Pile g A c B d lim most l bars)) := by
  have S := H.st
  unfold Pile at S
  refine fn_start Try.func31 rfl 49 rfl rfl [(0, _)] ⟨rfl, trivial⟩ ?_; intro a E
  refine wp_seq ?_
  refine region_plain (n := 2) [(0, .e), (1, .p)] rfl rfl ?_
  refine Run.alloc rfl rfl E S rfl rfl z43 rfl ?_; clear E a S; intro b1 w a E S B_; clear B_
  refine Run.assign rfl E rfl rfl rfl ?_; clear E a; intro a E
  refine Run.nil ?_
  refine then_n ?_
  refine wp_seq ?_
  refine region_plain (n := 8) [(0, .p), (1, .e), (2, .p), (3, .p), (4, .p), (5, .e), (6, .l), (7, .p)] rfl rfl ?_
  refine Run.move rfl E rfl rfl rfl ?_; clear E a; intro a E
  refine Run.call (args := [.pointer (some ⟨g, 0, none⟩)]) rfl rfl E rfl rfl Try.func34 nm34 rfl rfl (bar_none (St.holdsL (A := Pile g A c B d lim most l bars) (R := [_]) (S.sel [1, 2, 3, 0] (Pile g A c B d lim most l bars ++ [_]) rfl rfl)) h0) ?_; rintro e_ w ⟨rfl, B_⟩; refine ⟨_, rfl, fun _ => B_, ?_⟩; clear E a; replace S := S.bel B_; intro a E
  clear B_
  refine Run.move rfl E rfl rfl rfl ?_; clear E a; intro a E
  refine Run.extract rfl E rfl rfl rfl rfl ?_; clear E a; intro a E
  refine Run.extract rfl E rfl rfl rfl rfl ?_; clear E a; intro a E
  refine Run.alloc rfl rfl E S rfl rfl z43 rfl ?_; clear E a S; intro b2 w a E S B_; clear B_
  refine Run.store (news := [.bool false, .int .i64 0, .int .i64 0, .int .i64 0, .int .i64 0, .int .i64 0]) (cs' := [_, _, _, _, _, _]) (hp' := [_, _, _, _, _]) 0 rfl E S rfl rfl rfl rfl rfl sz43 rfl rfl rfl rfl ?_; clear S; intro w S
  refine Run.assign rfl E rfl rfl rfl ?_; clear E a; intro a E
  refine Run.nil ?_
  refine then_n ?_
  refine wp_seq ?_
  refine wp_seq ?_
  refine region_plain (n := 2) [(0, .p), (1, .p)] rfl rfl ?_
  refine Run.move rfl E rfl rfl rfl ?_; clear E a; intro a E
  refine Run.not rfl E rfl rfl rfl rfl ?_; clear E a; intro a E
  refine Run.nil ?_
  refine then_n ?_
  refine cond_T E rfl ?_
  refine wp_seq ?_
  refine region_plain (n := 3) [(0, .p), (1, .l), (2, .p)] rfl rfl ?_
  refine Run.build (cs := #[.bool false, .int .i64 0, .int .i64 0, .int .i64 0, .int .i64 0, .int .i64 0]) [] rfl E rfl rfl rfl rfl ?_; clear E a; intro a E
  refine Run.store (news := [.bool false, .int .i64 0, .int .i64 0, .int .i64 0, .int .i64 0, .int .i64 0]) (cs' := [_, _, _, _, _, _]) (hp' := [_, _, _, _, _]) 1 rfl E S rfl rfl rfl rfl rfl sz43 rfl rfl rfl rfl ?_; clear S; intro w S
  refine Run.assign rfl E rfl rfl rfl ?_; clear E a; intro a E
  refine Run.nil ?_
  refine then_n ?_
  refine wp_ret ?_
  refine then_r ?_
  skip
  refine retN E (vs := [.agg #[.bool false, .int .i64 0, .int .i64 0, .int .i64 0, .int .i64 0, .int .i64 0], .bool false]) Try.results31 (.cell (E.slot _ _ rfl) (run_loadVarAgg ag43 rfl (objAll S 1 rfl)) (.tmp (E.slot _ _ rfl) .nil)) rfl ⟨rfl, ?_⟩
  have S : St _ _ _ [_, _, _, _, _] := S.sel [0, 1, 2, 3, 4] _ rfl rfl
  have S := S.drop1.drop1
  exact S

theorem pop_plain {pc pos mark org val : Int} (H : Own w0 (Pile g A c B d lim most l bars)) (h0 : 0 < l.length) (hl : l.length ≤ 140737488355328) (he : l[l.length - 1]? = some ⟨false, pc, pos, mark, org, val⟩) : Calls Try.prog 45 [.pointer (some ⟨g, 0, none⟩)].toArray w0 (fun r w' => r = .returned (.tuple #[.agg #[.bool false, .int .i64 pc, .int .i64 pos, .int .i64 mark, .int .i64 org, .int .i64 val], .bool true]) ∧ St (fps (Pile g A c B d lim most l bars)) w0 w' (Pile g A c B d lim most (l.take (l.length - 1)) bars)) := by
  have S := H.st
  unfold Pile at S
  have hcA := S.rowCap 1 rfl
  have hcB := S.rowCap 2 rfl
  refine fn_start Try.func45 rfl 45 rfl rfl [(0, _)] ⟨rfl, trivial⟩ ?_; intro a E
  refine wp_seq ?_
  refine region_plain (n := 2) [(0, .e), (1, .p)] rfl rfl ?_
  refine Run.alloc rfl rfl E S rfl rfl z43 rfl ?_; clear E a S; intro b1 w a E S B_; clear B_
  refine Run.assign rfl E rfl rfl rfl ?_; clear E a; intro a E
  refine Run.nil ?_
  refine then_n ?_
  refine wp_seq ?_
  refine region_plain (n := 8) [(0, .p), (1, .e), (2, .p), (3, .p), (4, .p), (5, .e), (6, .l), (7, .p)] rfl rfl ?_
  refine Run.move rfl E rfl rfl rfl ?_; clear E a; intro a E
  refine Run.call (args := [.pointer (some ⟨g, 0, none⟩)]) rfl rfl E rfl rfl Try.func32 nm32 rfl rfl (top_some (St.holdsL (A := Pile g A c B d lim most l bars) (R := [_]) (S.sel [1, 2, 3, 0] (Pile g A c B d lim most l bars ++ [_]) rfl rfl)) h0 hl he) ?_; rintro e_ w ⟨rfl, B_⟩; refine ⟨_, rfl, fun _ => B_, ?_⟩; clear E a; replace S := S.bel B_; intro a E
  clear B_
  refine Run.move rfl E rfl rfl rfl ?_; clear E a; intro a E
  refine Run.extract rfl E rfl rfl rfl rfl ?_; clear E a; intro a E
  refine Run.extract rfl E rfl rfl rfl rfl ?_; clear E a; intro a E
  refine Run.alloc rfl rfl E S rfl rfl z43 rfl ?_; clear E a S; intro b2 w a E S B_; clear B_
  refine Run.store (news := [.bool false, .int .i64 pc, .int .i64 pos, .int .i64 mark, .int .i64 org, .int .i64 val]) (cs' := [_, _, _, _, _, _]) (hp' := [_, _, _, _, _]) 0 rfl E S rfl rfl rfl rfl rfl sz43 rfl rfl rfl rfl ?_; clear S; intro w S
  refine Run.assign rfl E rfl rfl rfl ?_; clear E a; intro a E
  refine Run.nil ?_
  refine then_n ?_
  refine wp_seq ?_
  refine wp_seq ?_
  refine region_plain (n := 2) [(0, .p), (1, .p)] rfl rfl ?_
  refine Run.move rfl E rfl rfl rfl ?_; clear E a; intro a E
  refine Run.not rfl E rfl rfl rfl rfl ?_; clear E a; intro a E
  refine Run.nil ?_
  refine then_n ?_
  refine cond_F E rfl ?_
  refine wp_skip ?_
  refine then_n ?_
  refine wp_seq ?_
  refine region_drawS (n := 15) [(0, .p), (1, .p), (2, .p), (3, .p), (5, .p), (6, .p), (7, .p), (4, .t), (8, .t), (9, .p), (10, .p), (11, .p), (12, .p), (13, .p), (14, .l)] [0, 0, 2, 6, 14, 0, 32, 96, 224, 480, 992, 2046, 4095, 8191, 16383] S mixed rfl rfl (by kernel_rfl) (fun _ _ _ _ _ h => h) ?_; clear S; intro w S B_; clear B_
  refine Run.move rfl E rfl rfl rfl ?_; clear E a; intro a E
  refine Run.move rfl E rfl rfl rfl ?_; clear E a; intro a E
  refine Run.nilCheck rfl E rfl rfl rfl ?_; clear E a; intro a E
  refine Run.fieldAddr rfl E rfl rfl rfl fo130_2 (rfl) ?_; clear E a; intro a E
  refine Run.move rfl E rfl rfl rfl ?_; clear E a; intro a E
  refine Run.nilCheck rfl E rfl rfl rfl ?_; clear E a; intro a E
  refine Run.fieldAddr rfl E rfl rfl rfl fo130_2 (rfl) ?_; clear E a; intro a E
  refine Run.load1 rfl rfl E S rfl rfl rfl one38 (fun _ s => s.objCell 2 2 rfl rfl) ?_; clear E a; intro a E
  refine Run.load1 rfl rfl E S rfl rfl rfl one38 (fun _ s => s.objCell 2 2 rfl rfl) ?_; clear E a; intro a E
  refine Run.len rfl E rfl rfl rfl Try.underlying38 ?_; clear E a; intro a E
  refine Run.sub rfl E rfl rfl rfl rfl (i64_ok (by omega)) ?_; clear E a; intro a E
  refine Run.sliceH rfl E rfl rfl rfl rfl Try.underlying38 sz43 (by omega) (q := (l.length - 1)) (by omega) ?_; clear E a; intro a E
  refine Run.nilCheck rfl E rfl rfl rfl ?_; clear E a; intro a E
  refine Run.fieldAddr rfl E rfl rfl rfl fo130_2 (rfl) ?_; clear E a; intro a E
  refine Run.store (news := [.slice A (l.length - 1) c]) (cs' := [_, _, _, _]) (hp' := [_, _, _, _, _]) 2 rfl E S rfl rfl rfl rfl rfl sz38 rfl rfl rfl rfl ?_; clear S; intro w S
  replace S : St _ _ _ [.obj _ _ [_, _, _, _, _, _], .obj _ _ [_, _, _, _, _, _], .obj _ _ [_, _, _, _], _, _] := S.rowTake (hp' := [_, _, _, _, _]) 3 ((l.length - 1)) rfl (by omega) rfl
  refine Run.nil ?_
  refine then_n ?_
  refine wp_seq ?_
  refine wp_seq ?_
  refine region_plain (n := 2) [(0, .p), (1, .l)] rfl rfl ?_
  refine Run.fieldAddr rfl E rfl rfl rfl fo43_0 (rfl) ?_; clear E a; intro a E
  refine Run.load1 rfl rfl E S rfl rfl rfl one4 (fun _ s => s.objCell 0 0 rfl rfl) ?_; clear E a; intro a E
  refine Run.nil ?_
  refine then_n ?_
  refine cond_F E rfl ?_
  refine wp_skip ?_
  refine then_n ?_
  refine wp_seq ?_
  refine region_plain (n := 3) [(0, .l), (1, .l), (2, .p)] rfl rfl ?_
  refine Run.loadN (cs := [.bool false, .int .i64 pc, .int .i64 pos, .int .i64 mark, .int .i64 org, .int .i64 val]) rfl rfl E S rfl rfl rfl ag43 rfl (fun _ s => objAll s 0 rfl) ?_; clear E a; intro a E
  refine Run.store (news := [.bool false, .int .i64 pc, .int .i64 pos, .int .i64 mark, .int .i64 org, .int .i64 val]) (cs' := [_, _, _, _, _, _]) (hp' := [_, _, _, _, _]) 1 rfl E S rfl rfl rfl rfl rfl sz43 rfl rfl rfl rfl ?_; clear S; intro w S
  refine Run.assign rfl E rfl rfl rfl ?_; clear E a; intro a E
  refine Run.nil ?_
  refine then_n ?_
  refine wp_ret ?_
  have e1 : (l.take (l.length - 1)).length = l.length - 1 := by simp
  refine retN E (vs := [.agg #[.bool false, .int .i64 pc, .int .i64 pos, .int .i64 mark, .int .i64 org, .int .i64 val], .bool true]) Try.results45 (.cell (E.slot _ _ rfl) (run_loadVarAgg ag43 rfl (objAll S 1 rfl)) (.tmp (E.slot _ _ rfl) .nil)) rfl ⟨rfl, ?_⟩
  have S : St _ _ _ [_, _, _, _, _] := S.sel [0, 1, 2, 3, 4] _ rfl rfl
  have S := S.drop1.drop1
  unfold Pile; rw [e1, ← ents_take]; exact S

theorem pop_bar {pc pos mark org val : Int} (H : Own w0 (Pile g A c B d lim most l bars)) (h0 : 0 < l.length) (hl : l.length ≤ 140737488355328) (h1 : 0 < bars.length) (hm : bars.length ≤ 140737488355328) (he : l[l.length - 1]? = some ⟨true, pc, pos, mark, org, val⟩) : Calls Try.prog 45 [.pointer (some ⟨g, 0, none⟩)].toArray w0 (fun r w' => r = .returned (.tuple #[.agg #[.bool true, .int .i64 pc, .int .i64 pos, .int .i64 mark, .int .i64 org, .int .i64 val], .bool true]) ∧ St (fps (Pile g A c B d lim most l bars)) w0 w' (Pile g A c B d lim most (l.take (l.length - 1)) (bars.take (bars.length - 1)))) := by
  have S := H.st
  unfold Pile at S
  have hcA := S.rowCap 1 rfl
  have hcB := S.rowCap 2 rfl
  refine fn_start Try.func45 rfl 45 rfl rfl [(0, _)] ⟨rfl, trivial⟩ ?_; intro a E
  refine wp_seq ?_
  refine region_plain (n := 2) [(0, .e), (1, .p)] rfl rfl ?_
  refine Run.alloc rfl rfl E S rfl rfl z43 rfl ?_; clear E a S; intro b1 w a E S B_; clear B_
  refine Run.assign rfl E rfl rfl rfl ?_; clear E a; intro a E
  refine Run.nil ?_
  refine then_n ?_
  refine wp_seq ?_
  refine region_plain (n := 8) [(0, .p), (1, .e), (2, .p), (3, .p), (4, .p), (5, .e), (6, .l), (7, .p)] rfl rfl ?_
  refine Run.move rfl E rfl rfl rfl ?_; clear E a; intro a E
  refine Run.call (args := [.pointer (some ⟨g, 0, none⟩)]) rfl rfl E rfl rfl Try.func32 nm32 rfl rfl (top_some (St.holdsL (A := Pile g A c B d lim most l bars) (R := [_]) (S.sel [1, 2, 3, 0] (Pile g A c B d lim most l bars ++ [_]) rfl rfl)) h0 hl he) ?_; rintro e_ w ⟨rfl, B_⟩; refine ⟨_, rfl, fun _ => B_, ?_⟩; clear E a; replace S := S.bel B_; intro a E
  clear B_
  refine Run.move rfl E rfl rfl rfl ?_; clear E a; intro a E
  refine Run.extract rfl E rfl rfl rfl rfl ?_; clear E a; intro a E
  refine Run.extract rfl E rfl rfl rfl rfl ?_; clear E a; intro a E
  refine Run.alloc rfl rfl E S rfl rfl z43 rfl ?_; clear E a S; intro b2 w a E S B_; clear B_
  refine Run.store (news := [.bool true, .int .i64 pc, .int .i64 pos, .int .i64 mark, .int .i64 org, .int .i64 val]) (cs' := [_, _, _, _, _, _]) (hp' := [_, _, _, _, _]) 0 rfl E S rfl rfl rfl rfl rfl sz43 rfl rfl rfl rfl ?_; clear S; intro w S
  refine Run.assign rfl E rfl rfl rfl ?_; clear E a; intro a E
  refine Run.nil ?_
  refine then_n ?_
  refine wp_seq ?_
  refine wp_seq ?_
  refine region_plain (n := 2) [(0, .p), (1, .p)] rfl rfl ?_
  refine Run.move rfl E rfl rfl rfl ?_; clear E a; intro a E
  refine Run.not rfl E rfl rfl rfl rfl ?_; clear E a; intro a E
  refine Run.nil ?_
  refine then_n ?_
  refine cond_F E rfl ?_
  refine wp_skip ?_
  refine then_n ?_
  refine wp_seq ?_
  refine region_drawS (n := 15) [(0, .p), (1, .p), (2, .p), (3, .p), (5, .p), (6, .p), (7, .p), (4, .t), (8, .t), (9, .p), (10, .p), (11, .p), (12, .p), (13, .p), (14, .l)] [0, 0, 2, 6, 14, 0, 32, 96, 224, 480, 992, 2046, 4095, 8191, 16383] S mixed rfl rfl (by kernel_rfl) (fun _ _ _ _ _ h => h) ?_; clear S; intro w S B_; clear B_
  refine Run.move rfl E rfl rfl rfl ?_; clear E a; intro a E
  refine Run.move rfl E rfl rfl rfl ?_; clear E a; intro a E
  refine Run.nilCheck rfl E rfl rfl rfl ?_; clear E a; intro a E
  refine Run.fieldAddr rfl E rfl rfl rfl fo130_2 (rfl) ?_; clear E a; intro a E
  refine Run.move rfl E rfl rfl rfl ?_; clear E a; intro a E
  refine Run.nilCheck rfl E rfl rfl rfl ?_; clear E a; intro a E
  refine Run.fieldAddr rfl E rfl rfl rfl fo130_2 (rfl) ?_; clear E a; intro a E
  refine Run.load1 rfl rfl E S rfl rfl rfl one38 (fun _ s => s.objCell 2 2 rfl rfl) ?_; clear E a; intro a E
  refine Run.load1 rfl rfl E S rfl rfl rfl one38 (fun _ s => s.objCell 2 2 rfl rfl) ?_; clear E a; intro a E
  refine Run.len rfl E rfl rfl rfl Try.underlying38 ?_; clear E a; intro a E
  refine Run.sub rfl E rfl rfl rfl rfl (i64_ok (by omega)) ?_; clear E a; intro a E
  refine Run.sliceH rfl E rfl rfl rfl rfl Try.underlying38 sz43 (by omega) (q := (l.length - 1)) (by omega) ?_; clear E a; intro a E
  refine Run.nilCheck rfl E rfl rfl rfl ?_; clear E a; intro a E
  refine Run.fieldAddr rfl E rfl rfl rfl fo130_2 (rfl) ?_; clear E a; intro a E
  refine Run.store (news := [.slice A (l.length - 1) c]) (cs' := [_, _, _, _]) (hp' := [_, _, _, _, _]) 2 rfl E S rfl rfl rfl rfl rfl sz38 rfl rfl rfl rfl ?_; clear S; intro w S
  replace S : St _ _ _ [.obj _ _ [_, _, _, _, _, _], .obj _ _ [_, _, _, _, _, _], .obj _ _ [_, _, _, _], _, _] := S.rowTake (hp' := [_, _, _, _, _]) 3 ((l.length - 1)) rfl (by omega) rfl
  refine Run.nil ?_
  refine then_n ?_
  refine wp_seq ?_
  refine wp_seq ?_
  refine region_plain (n := 2) [(0, .p), (1, .l)] rfl rfl ?_
  refine Run.fieldAddr rfl E rfl rfl rfl fo43_0 (rfl) ?_; clear E a; intro a E
  refine Run.load1 rfl rfl E S rfl rfl rfl one4 (fun _ s => s.objCell 0 0 rfl rfl) ?_; clear E a; intro a E
  refine Run.nil ?_
  refine then_n ?_
  refine cond_T E rfl ?_
  refine region_drawS (n := 15) [(0, .p), (1, .p), (2, .p), (3, .p), (5, .p), (6, .p), (7, .p), (4, .t), (8, .t), (9, .p), (10, .p), (11, .p), (12, .p), (13, .p), (14, .l)] [0, 0, 2, 6, 14, 0, 32, 96, 224, 480, 992, 2046, 4095, 8191, 16383] S mixed rfl rfl (by kernel_rfl) (fun _ _ _ _ _ h => h) ?_; clear S; intro w S B_; clear B_
  refine Run.move rfl E rfl rfl rfl ?_; clear E a; intro a E
  refine Run.move rfl E rfl rfl rfl ?_; clear E a; intro a E
  refine Run.nilCheck rfl E rfl rfl rfl ?_; clear E a; intro a E
  refine Run.fieldAddr rfl E rfl rfl rfl fo130_3 (rfl) ?_; clear E a; intro a E
  refine Run.move rfl E rfl rfl rfl ?_; clear E a; intro a E
  refine Run.nilCheck rfl E rfl rfl rfl ?_; clear E a; intro a E
  refine Run.fieldAddr rfl E rfl rfl rfl fo130_3 (rfl) ?_; clear E a; intro a E
  refine Run.load1 rfl rfl E S rfl rfl rfl one32 (fun _ s => s.objCell 2 3 rfl rfl) ?_; clear E a; intro a E
  refine Run.load1 rfl rfl E S rfl rfl rfl one32 (fun _ s => s.objCell 2 3 rfl rfl) ?_; clear E a; intro a E
  refine Run.len rfl E rfl rfl rfl Try.underlying32 ?_; clear E a; intro a E
  refine Run.sub rfl E rfl rfl rfl rfl (i64_ok (by omega)) ?_; clear E a; intro a E
  refine Run.sliceH rfl E rfl rfl rfl rfl Try.underlying32 sz3 (by omega) (q := (bars.length - 1)) (by omega) ?_; clear E a; intro a E
  refine Run.nilCheck rfl E rfl rfl rfl ?_; clear E a; intro a E
  refine Run.fieldAddr rfl E rfl rfl rfl fo130_3 (rfl) ?_; clear E a; intro a E
  refine Run.store (news := [.slice B (bars.length - 1) d]) (cs' := [_, _, _, _]) (hp' := [_, _, _, _, _]) 2 rfl E S rfl rfl rfl rfl rfl sz32 rfl rfl rfl rfl ?_; clear S; intro w S
  replace S : St _ _ _ [.obj _ _ [_, _, _, _, _, _], .obj _ _ [_, _, _, _, _, _], .obj _ _ [_, _, _, _], _, _] := S.rowTake (hp' := [_, _, _, _, _]) 4 ((bars.length - 1)) rfl (by omega) rfl
  refine Run.nil ?_
  refine then_n ?_
  refine wp_seq ?_
  refine region_plain (n := 3) [(0, .l), (1, .l), (2, .p)] rfl rfl ?_
  refine Run.loadN (cs := [.bool true, .int .i64 pc, .int .i64 pos, .int .i64 mark, .int .i64 org, .int .i64 val]) rfl rfl E S rfl rfl rfl ag43 rfl (fun _ s => objAll s 0 rfl) ?_; clear E a; intro a E
  refine Run.store (news := [.bool true, .int .i64 pc, .int .i64 pos, .int .i64 mark, .int .i64 org, .int .i64 val]) (cs' := [_, _, _, _, _, _]) (hp' := [_, _, _, _, _]) 1 rfl E S rfl rfl rfl rfl rfl sz43 rfl rfl rfl rfl ?_; clear S; intro w S
  refine Run.assign rfl E rfl rfl rfl ?_; clear E a; intro a E
  refine Run.nil ?_
  refine then_n ?_
  refine wp_ret ?_
  have e1 : (l.take (l.length - 1)).length = l.length - 1 := by simp
  have e2 : (bars.take (bars.length - 1)).length = bars.length - 1 := by simp; done
  refine retN E (vs := [.agg #[.bool true, .int .i64 pc, .int .i64 pos, .int .i64 mark, .int .i64 org, .int .i64 val], .bool true]) Try.results45 (.cell (E.slot _ _ rfl) (run_loadVarAgg ag43 rfl (objAll S 1 rfl)) (.tmp (E.slot _ _ rfl) .nil)) rfl ⟨rfl, ?_⟩
  have S : St _ _ _ [_, _, _, _, _] := S.sel [0, 1, 2, 3, 4] _ rfl rfl
  have S := S.drop1.drop1
  unfold Pile; rw [e1, ← ents_take, e2, ← ints_take1]; exact S

theorem cut_some {k : Nat} (H : Own w0 (Pile g A c B d lim most l bars)) (h0 : 0 < bars.length) (hm : bars.length ≤ 140737488355328) (hl : l.length ≤ 140737488355328) (hk : bars[bars.length - 1]? = some (k : Int)) (he : l[k]? = some e) : Calls Try.prog 31 [.pointer (some ⟨g, 0, none⟩)].toArray w0 (fun r w' => r = .returned (.tuple #[.agg #[.bool e.bar, .int .i64 e.pc, .int .i64 e.pos, .int .i64 e.mark, .int .i64 e.org, .int .i64 e.val], .bool true]) ∧ St (fps (Pile g A c B d lim most l bars)) w0 w' (Pile g A c B d lim most (l.take k) (bars.take (bars.length - 1)))) := by
  have S := H.st
  unfold Pile at S
  have hkl : k < l.length := (List.getElem?_eq_some_iff.1 he).1
  have hcA := S.rowCap 1 rfl
  have hcB := S.rowCap 2 rfl
  obtain ⟨bB, rfl⟩ := S.rowAddr 2 rfl h0
  refine fn_start Try.func31 rfl 49 rfl rfl [(0, _)] ⟨rfl, trivial⟩ ?_; intro a E
  refine wp_seq ?_
  refine region_plain (n := 2) [(0, .e), (1, .p)] rfl rfl ?_
  refine Run.alloc rfl rfl E S rfl rfl z43 rfl ?_; clear E a S; intro b1 w a E S B_; clear B_
  refine Run.assign rfl E rfl rfl rfl ?_; clear E a; intro a E
  refine Run.nil ?_
  refine then_n ?_
  refine wp_seq ?_
  refine region_plain (n := 8) [(0, .p), (1, .e), (2, .p), (3, .p), (4, .p), (5, .e), (6, .l), (7, .p)] rfl rfl ?_
  refine Run.move rfl E rfl rfl rfl ?_; clear E a; intro a E
  refine Run.call (args := [.pointer (some ⟨g, 0, none⟩)]) rfl rfl E rfl rfl Try.func34 nm34 rfl rfl (bar_some (St.holdsL (A := Pile g A c (some ⟨bB, 0, none⟩) d lim most l bars) (R := [_]) (S.sel [1, 2, 3, 0] (Pile g A c (some ⟨bB, 0, none⟩) d lim most l bars ++ [_]) rfl rfl)) h0 hm hl hk he) ?_; rintro e_ w ⟨rfl, B_⟩; refine ⟨_, rfl, fun _ => B_, ?_⟩; clear E a; replace S := S.bel B_; intro a E
  clear B_
  refine Run.move rfl E rfl rfl rfl ?_; clear E a; intro a E
  refine Run.extract rfl E rfl rfl rfl rfl ?_; clear E a; intro a E
  refine Run.extract rfl E rfl rfl rfl rfl ?_; clear E a; intro a E
  refine Run.alloc rfl rfl E S rfl rfl z43 rfl ?_; clear E a S; intro b2 w a E S B_; clear B_
  refine Run.store (news := [.bool e.bar, .int .i64 e.pc, .int .i64 e.pos, .int .i64 e.mark, .int .i64 e.org, .int .i64 e.val]) (cs' := [_, _, _, _, _, _]) (hp' := [_, _, _, _, _]) 0 rfl E S rfl rfl rfl rfl rfl sz43 rfl rfl rfl rfl ?_; clear S; intro w S
  refine Run.assign rfl E rfl rfl rfl ?_; clear E a; intro a E
  refine Run.nil ?_
  refine then_n ?_
  refine wp_seq ?_
  refine wp_seq ?_
  refine region_plain (n := 2) [(0, .p), (1, .p)] rfl rfl ?_
  refine Run.move rfl E rfl rfl rfl ?_; clear E a; intro a E
  refine Run.not rfl E rfl rfl rfl rfl ?_; clear E a; intro a E
  refine Run.nil ?_
  refine then_n ?_
  refine cond_F E rfl ?_
  refine wp_skip ?_
  refine then_n ?_
  refine wp_seq ?_
  refine region_drawS (n := 21) [(0, .p), (1, .p), (2, .p), (3, .p), (5, .p), (6, .p), (7, .p), (9, .p), (10, .p), (11, .p), (4, .t), (8, .t), (12, .t), (13, .p), (14, .p), (15, .p), (16, .t), (17, .p), (18, .p), (19, .p), (20, .l)] [0, 0, 2, 6, 14, 0, 32, 96, 224, 0, 512, 1536, 3584, 7680, 15872, 32736, 65504, 131070, 262143, 524287, 1048575] S mixed rfl rfl (by kernel_rfl) (fun _ _ _ _ _ h => h) ?_; clear S; intro w S B_; clear B_
  refine Run.move rfl E rfl rfl rfl ?_; clear E a; intro a E
  refine Run.move rfl E rfl rfl rfl ?_; clear E a; intro a E
  refine Run.nilCheck rfl E rfl rfl rfl ?_; clear E a; intro a E
  refine Run.fieldAddr rfl E rfl rfl rfl fo130_2 (rfl) ?_; clear E a; intro a E
  refine Run.move rfl E rfl rfl rfl ?_; clear E a; intro a E
  refine Run.nilCheck rfl E rfl rfl rfl ?_; clear E a; intro a E
  refine Run.fieldAddr rfl E rfl rfl rfl fo130_3 (rfl) ?_; clear E a; intro a E
  refine Run.move rfl E rfl rfl rfl ?_; clear E a; intro a E
  refine Run.nilCheck rfl E rfl rfl rfl ?_; clear E a; intro a E
  refine Run.fieldAddr rfl E rfl rfl rfl fo130_3 (rfl) ?_; clear E a; intro a E
  refine Run.load1 rfl rfl E S rfl rfl rfl one38 (fun _ s => s.objCell 2 2 rfl rfl) ?_; clear E a; intro a E
  refine Run.load1 rfl rfl E S rfl rfl rfl one32 (fun _ s => s.objCell 2 3 rfl rfl) ?_; clear E a; intro a E
  refine Run.load1 rfl rfl E S rfl rfl rfl one32 (fun _ s => s.objCell 2 3 rfl rfl) ?_; clear E a; intro a E
  refine Run.len rfl E rfl rfl rfl Try.underlying32 ?_; clear E a; intro a E
  refine Run.sub rfl E rfl rfl rfl rfl (i64_ok (by omega)) ?_; clear E a; intro a E
  refine Run.indexAddr rfl E rfl rfl rfl rfl Try.underlying32 sz3 (by omega) (ix_at (m' := (bars.length - 1)) (o := (bars.length - 1)) (by omega) (Nat.mul_one _)) ?_; clear E a; intro a E
  refine Run.load1 rfl rfl E S rfl rfl rfl one3 (fun _ s => s.rowCell 4 rfl (ints_get' hk)) ?_; clear E a; intro a E
  refine Run.sliceH rfl E rfl rfl rfl rfl Try.underlying38 sz43 (by omega) (q := k) (by omega) ?_; clear E a; intro a E
  refine Run.nilCheck rfl E rfl rfl rfl ?_; clear E a; intro a E
  refine Run.fieldAddr rfl E rfl rfl rfl fo130_2 (rfl) ?_; clear E a; intro a E
  refine Run.store (news := [.slice A k c]) (cs' := [_, _, _, _]) (hp' := [_, _, _, _, _]) 2 rfl E S rfl rfl rfl rfl rfl sz38 rfl rfl rfl rfl ?_; clear S; intro w S
  replace S : St _ _ _ [.obj _ _ [_, _, _, _, _, _], .obj _ _ [_, _, _, _, _, _], .obj _ _ [_, _, _, _], _, _] := S.rowTake (hp' := [_, _, _, _, _]) 3 (k) rfl (by omega) rfl
  refine Run.nil ?_
  refine then_n ?_
  refine wp_seq ?_
  refine region_drawS (n := 15) [(0, .p), (1, .p), (2, .p), (3, .p), (5, .p), (6, .p), (7, .p), (4, .t), (8, .t), (9, .p), (10, .p), (11, .p), (12, .p), (13, .p), (14, .l)] [0, 0, 2, 6, 14, 0, 32, 96, 224, 480, 992, 2046, 4095, 8191, 16383] S mixed rfl rfl (by kernel_rfl) (fun _ _ _ _ _ h => h) ?_; clear S; intro w S B_; clear B_
  refine Run.move rfl E rfl rfl rfl ?_; clear E a; intro a E
  refine Run.move rfl E rfl rfl rfl ?_; clear E a; intro a E
  refine Run.nilCheck rfl E rfl rfl rfl ?_; clear E a; intro a E
  refine Run.fieldAddr rfl E rfl rfl rfl fo130_3 (rfl) ?_; clear E a; intro a E
  refine Run.move rfl E rfl rfl rfl ?_; clear E a; intro a E
  refine Run.nilCheck rfl E rfl rfl rfl ?_; clear E a; intro a E
  refine Run.fieldAddr rfl E rfl rfl rfl fo130_3 (rfl) ?_; clear E a; intro a E
  refine Run.load1 rfl rfl E S rfl rfl rfl one32 (fun _ s => s.objCell 2 3 rfl rfl) ?_; clear E a; intro a E
  refine Run.load1 rfl rfl E S rfl rfl rfl one32 (fun _ s => s.objCell 2 3 rfl rfl) ?_; clear E a; intro a E
  refine Run.len rfl E rfl rfl rfl Try.underlying32 ?_; clear E a; intro a E
  refine Run.sub rfl E rfl rfl rfl rfl (i64_ok (by omega)) ?_; clear E a; intro a E
  refine Run.sliceH rfl E rfl rfl rfl rfl Try.underlying32 sz3 (by omega) (q := (bars.length - 1)) (by omega) ?_; clear E a; intro a E
  refine Run.nilCheck rfl E rfl rfl rfl ?_; clear E a; intro a E
  refine Run.fieldAddr rfl E rfl rfl rfl fo130_3 (rfl) ?_; clear E a; intro a E
  refine Run.store (news := [.slice (some ⟨bB, 0, none⟩) (bars.length - 1) d]) (cs' := [_, _, _, _]) (hp' := [_, _, _, _, _]) 2 rfl E S rfl rfl rfl rfl rfl sz32 rfl rfl rfl rfl ?_; clear S; intro w S
  replace S : St _ _ _ [.obj _ _ [_, _, _, _, _, _], .obj _ _ [_, _, _, _, _, _], .obj _ _ [_, _, _, _], _, _] := S.rowTake (hp' := [_, _, _, _, _]) 4 ((bars.length - 1)) rfl (by omega) rfl
  refine Run.nil ?_
  refine then_n ?_
  refine wp_seq ?_
  refine region_plain (n := 3) [(0, .l), (1, .l), (2, .p)] rfl rfl ?_
  refine Run.loadN (cs := [.bool e.bar, .int .i64 e.pc, .int .i64 e.pos, .int .i64 e.mark, .int .i64 e.org, .int .i64 e.val]) rfl rfl E S rfl rfl rfl ag43 rfl (fun _ s => objAll s 0 rfl) ?_; clear E a; intro a E
  refine Run.store (news := [.bool e.bar, .int .i64 e.pc, .int .i64 e.pos, .int .i64 e.mark, .int .i64 e.org, .int .i64 e.val]) (cs' := [_, _, _, _, _, _]) (hp' := [_, _, _, _, _]) 1 rfl E S rfl rfl rfl rfl rfl sz43 rfl rfl rfl rfl ?_; clear S; intro w S
  refine Run.assign rfl E rfl rfl rfl ?_; clear E a; intro a E
  refine Run.nil ?_
  refine then_n ?_
  refine wp_ret ?_
  have e1 : (l.take k).length = k := by simp; omega
  have e2 : (bars.take (bars.length - 1)).length = bars.length - 1 := by simp
  refine retN E (vs := [.agg #[.bool e.bar, .int .i64 e.pc, .int .i64 e.pos, .int .i64 e.mark, .int .i64 e.org, .int .i64 e.val], .bool true]) Try.results31 (.cell (E.slot _ _ rfl) (run_loadVarAgg ag43 rfl (objAll S 1 rfl)) (.tmp (E.slot _ _ rfl) .nil)) rfl ⟨rfl, ?_⟩
  have S : St _ _ _ [_, _, _, _, _] := S.sel [0, 1, 2, 3, 4] _ rfl rfl
  have S := S.drop1.drop1
  unfold Pile; rw [e1, ← ents_take, e2, ← ints_take1]; exact S

end
end Go.Proofs.Ytlcglefbhlhcpaa.K
