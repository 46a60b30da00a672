/- The reader's places. -/
import Derived.Test.YtlcglefbhlhcpaaKg
import Derived.Test.YtlcglefbhlhcpaaGeR
namespace Go.Proofs.Ytlcglefbhlhcpaa.K
open Go.RowKit
set_option linter.unusedVariables false
set_option maxRecDepth 100000
set_option maxHeartbeats 400000

section
variable {w0 : World} {A C : Option Addr} {c d : Nat} {b : List Nat} {at_ : Int}

theorem places_walk {r e : Nat} {l : List Int} (H : Own w0 [.obj r 152 [.slice A b.length c, .int .i64 at_, .int .i64 (e : Int)], .row (.slice C l.length d) 3 1 l.length (ints l)]) (H1 : Rd w0 A b.length 1 (u8s b)) (hb8 : ∀ x ∈ b, x < 256) (hl : b.length ≤ 140737488355328) (hAw : 0 < b.length → ∀ b_ o, A = some ⟨b_, o, none⟩ → b_ ∉ fps [.obj r 152 [.slice A b.length c, .int .i64 at_, .int .i64 (e : Int)], .row (.slice C l.length d) 3 1 l.length (ints l)]) (hll : l.length ≤ 65536) (hli : ∀ x ∈ l, inr x) : Calls Try.prog 106 [.pointer (some ⟨r, 0, none⟩), .slice C l.length d].toArray w0 (fun r_ w' => r_ = .returned (.tuple #[]) ∧ St (fps [.obj r 152 [.slice A b.length c, .int .i64 at_, .int .i64 (e : Int)], .row (.slice C l.length d) 3 1 l.length (ints l)]) w0 w' [.obj r 152 [.slice A b.length c, .int .i64 (plR b at_ e l).1, .int .i64 (((plR b at_ e l).2.1 : Nat) : Int)], .row (.slice C l.length d) 3 1 l.length (ints (plR b at_ e l).2.2)]) := by
  have S := H.st
  have hArw : 0 < b.length → ∀ b_ o, A = some ⟨b_, o, none⟩ → b_ ∉ [r] := fun h b_ o e hm => hAw h b_ o e (by rw [List.mem_singleton.1 hm]; simp [fps, Ck.fp])
  refine fn_start Try.func106 rfl 68 rfl rfl [(0, _), (1, _)] ⟨rfl, rfl, trivial⟩ ?_; intro a E
  refine wp_seq ?_
  refine region_plain (n := 5) [(0, .p), (1, .p), (2, .p), (3, .l), (4, .p)] rfl rfl ?_
  refine Run.move rfl E rfl rfl rfl ?_; clear E a; intro a E
  refine Run.move rfl E rfl rfl rfl ?_; clear E a; intro a E
  refine Run.len rfl E rfl rfl rfl Try.underlying32 ?_; clear E a; intro a E
  refine Run.call (args := [.pointer (some ⟨r, 0, none⟩), .int .i64 (l.length : Int)]) rfl rfl E rfl rfl Try.func104 nm104 rfl rfl (number_walk (at_ := at_) (e := e) (most := (l.length : Int)) (St.ownL (A := [.obj r 152 [.slice A b.length c, .int .i64 at_, .int .i64 (e : Int)]]) (R := [_]) S) (H1.chg S.chg hAw) hb8 hl hArw (by omega) (by omega)) ?_; rintro e_ w ⟨rfl, S_⟩; refine ⟨_, rfl, (fun h => by cases h), ?_⟩; clear E a; intro a E
  replace S : St _ _ _ [_, _] := St.call (A := [.obj r 152 [.slice A b.length c, .int .i64 at_, .int .i64 (e : Int)]]) (R := [_]) S S_; clear S_
  obtain ⟨a1, e2, v3, hr4⟩ : ∃ (x : Int) (y : Nat) (z : Int), numR b at_ e (l.length : Int) = (x, y, z) := ⟨_, _, _, rfl⟩
  rw [hr4] at E S
  dsimp only at E S
  replace S : St _ _ _ [.obj r 152 [.slice A b.length c, .int .i64 a1, .int .i64 (e2 : Int)], .row (.slice C l.length d) 3 1 l.length (ints l)] := S
  have hvv3 := numR_ge b at_ e (l.length : Int) (by omega); rw [hr4] at hvv3; dsimp only at hvv3
  refine Run.assign rfl E rfl rfl rfl ?_; clear E a; intro a E
  refine Run.nil ?_
  refine then_n ?_
  refine wp_seq ?_
  refine wp_seq ?_
  refine region_plain (n := 9) [(0, .p), (1, .p), (2, .p), (3, .p), (4, .p), (5, .p), (6, .l), (7, .p), (8, .p)] rfl rfl ?_
  refine Run.move rfl E rfl rfl rfl ?_; clear E a; intro a E
  by_cases hn0 : v3 = 0
  · skip
    refine Run.eqi rfl E rfl rfl rfl rfl (decide_eq_true (hn0)) ?_; clear E a; intro a E
    refine Run.move rfl E rfl rfl rfl ?_; clear E a; intro a E
    refine Run.move rfl E rfl rfl rfl ?_; clear E a; intro a E
    refine Run.nilCheck rfl E rfl rfl rfl ?_; clear E a; intro a E
    refine Run.fieldAddr rfl E rfl rfl rfl fo152_2 (rfl) ?_; clear E a; intro a E
    refine Run.load1 rfl rfl E S rfl rfl rfl one25 (fun _ s => s.objCell 0 2 rfl rfl) ?_; clear E a; intro a E
    by_cases he0 : e2 = 0
    · skip
      refine Run.eqi rfl E rfl rfl rfl rfl (decide_eq_true (by omega)) ?_; clear E a; intro a E
      refine Run.pickT rfl E rfl rfl rfl rfl ?_; clear E a; intro a E
      refine Run.nil ?_
      refine then_n ?_
      refine cond_T E rfl ?_
      refine region_plain (n := 4) [(0, .p), (1, .p), (2, .p), (3, .l)] rfl rfl ?_
      refine Run.move rfl E rfl rfl rfl ?_; clear E a; intro a E
      refine Run.nilCheck rfl E rfl rfl rfl ?_; clear E a; intro a E
      refine Run.fieldAddr rfl E rfl rfl rfl fo152_2 (rfl) ?_; clear E a; intro a E
      refine Run.store (news := [.int .i64 11]) (cs' := [_, _, _]) (hp' := [_, _]) 0 rfl E S rfl rfl rfl rfl rfl sz25 rfl rfl rfl rfl ?_; clear S; intro w S
      refine Run.nil ?_
      refine then_n ?_
      refine wp_seq ?_
      refine region_plain (n := 1) [(0, .p)] rfl rfl ?_
      refine Run.assign rfl E rfl rfl rfl ?_; clear E a; intro a E
      refine Run.nil ?_
      refine then_n ?_
      refine wp_seq ?_
      refine region_plain (n := 2) [(0, .p), (1, .p)] rfl rfl ?_
      refine Run.move rfl E rfl rfl rfl ?_; clear E a; intro a E
      refine Run.move rfl E rfl rfl rfl ?_; clear E a; intro a E
      refine Run.nil ?_
      refine then_n ?_
      refine wp_block ?_
      obtain ⟨cnt, hcnt⟩ : ∃ cnt : Nat, (cnt : Int) = v3 := ⟨v3.toNat, by omega⟩
      have hT : plR b at_ e l = plS b cnt a1 11 0 l := by unfold plR; rw [hr4]; dsimp only; rw [if_pos ⟨hn0, he0⟩]; congr 1; omega
      replace E := E.setv 23 rfl (show Value.int .i64 v3 = .int .i64 (cnt : Int) by rw [hcnt])
      replace S : St _ _ _ [.obj r 152 [.slice A b.length c, .int .i64 a1, .int .i64 ((11 : Nat) : Int)], _] := S
      refine wp_loop_ghost (fun n_ a w => ∃ i : Nat, ∃ p : Int, ∃ q : Nat, ∃ idx : Nat, ∃ m : List Int, cnt - i = n_ ∧ Env 68 [(0, .pointer (some ⟨r, 0, none⟩)), (1, .slice C l.length d), (5, .int .i64 (idx : Int)), (23, .int .i64 (cnt : Int)), (24, .int .i64 (i : Int))] a ∧ St _ _ w [.obj r 152 [.slice A b.length c, .int .i64 p, .int .i64 (q : Int)], .row (.slice C l.length d) 3 1 l.length (ints m)] ∧ (i ≤ cnt) ∧ (m.length = l.length) ∧ (idx ≤ l.length) ∧ (∀ x ∈ m, inr x) ∧ (plR b at_ e l = plS b (cnt - i) p q idx m)) _ ⟨0, a1, 11, 0, l, rfl, E.keeps [(0, _), (1, _), (5, _), (23, _), (24, _)] ⟨rfl, rfl, rfl, rfl, rfl, trivial⟩, S, Nat.zero_le _, rfl, Nat.zero_le _, hli, hT⟩ ?_
      clear E a S
      rintro n_ a w ⟨i, p, q, idx, m, rfl, E, S, hi, hml, hix, hmr, hTl⟩
      refine wp_seq ?_
      refine region_plain (n := 1) [(0, .p)] rfl rfl ?_
      by_cases hlt : i < cnt
      · skip
        refine Run.lss rfl E rfl rfl rfl rfl (decide_eq_true (by omega)) ?_; clear E a; intro a E
        refine Run.nil ?_
        refine then_n ?_
        refine wp_seq ?_
        refine cond_T E rfl ?_
        refine wp_skip ?_
        refine then_n ?_
        refine wp_seq ?_
        refine wp_block ?_
        refine wp_seq ?_
        refine region_plain (n := 9) [(0, .p), (1, .p), (2, .p), (3, .p), (4, .p), (5, .p), (6, .p), (7, .l), (8, .p)] rfl rfl ?_
        refine Run.move rfl E rfl rfl rfl ?_; clear E a; intro a E
        refine Run.move rfl E rfl rfl rfl ?_; clear E a; intro a E
        refine Run.len rfl E rfl rfl rfl Try.underlying32 ?_; clear E a; intro a E
        refine Run.sub rfl E rfl rfl rfl rfl (i64_ok (by omega)) ?_; clear E a; intro a E
        refine Run.move rfl E rfl rfl rfl ?_; clear E a; intro a E
        refine Run.sub rfl E rfl rfl rfl rfl (i64_ok (by omega)) ?_; clear E a; intro a E
        refine Run.max rfl E rfl rfl rfl rfl (q := (max ((l.length : Int) - 1 - (idx : Int)) 0)) (by split <;> omega) ?_; clear E a; intro a E
        refine Run.call (args := [.pointer (some ⟨r, 0, none⟩), .int .i64 (max ((l.length : Int) - 1 - (idx : Int)) 0)]) rfl rfl E rfl rfl Try.func104 nm104 rfl rfl (number_walk (at_ := p) (e := q) (most := (max ((l.length : Int) - 1 - (idx : Int)) 0)) (St.ownL (A := [.obj r 152 [.slice A b.length c, .int .i64 p, .int .i64 (q : Int)]]) (R := [_]) S) (H1.chg S.chg hAw) hb8 hl hArw (by omega) (by omega)) ?_; rintro e_ w ⟨rfl, S_⟩; refine ⟨_, rfl, (fun h => by cases h), ?_⟩; clear E a; intro a E
        replace S : St _ _ _ [_, _] := St.call (A := [.obj r 152 [.slice A b.length c, .int .i64 p, .int .i64 (q : Int)]]) (R := [_]) S S_; clear S_
        obtain ⟨a5, e6, v7, hr8⟩ : ∃ (x : Int) (y : Nat) (z : Int), numR b p q (max ((l.length : Int) - 1 - (idx : Int)) 0) = (x, y, z) := ⟨_, _, _, rfl⟩
        rw [hr8] at E S
        dsimp only at E S
        replace S : St _ _ _ [.obj r 152 [.slice A b.length c, .int .i64 a5, .int .i64 (e6 : Int)], .row (.slice C l.length d) 3 1 l.length (ints m)] := S
        have hvv7 := numR_ge b p q (max ((l.length : Int) - 1 - (idx : Int)) 0) (by omega); rw [hr8] at hvv7; dsimp only at hvv7
        refine Run.assign rfl E rfl rfl rfl ?_; clear E a; intro a E
        refine Run.nil ?_
        refine then_n ?_
        refine wp_seq ?_
        refine wp_seq ?_
        refine region_plain (n := 11) [(0, .p), (1, .p), (2, .p), (3, .l), (4, .p), (5, .p), (6, .p), (7, .p), (8, .p), (9, .p), (10, .p)] rfl rfl ?_
        refine Run.move rfl E rfl rfl rfl ?_; clear E a; intro a E
        refine Run.nilCheck rfl E rfl rfl rfl ?_; clear E a; intro a E
        refine Run.fieldAddr rfl E rfl rfl rfl fo152_2 (rfl) ?_; clear E a; intro a E
        refine Run.load1 rfl rfl E S rfl rfl rfl one25 (fun _ s => s.objCell 0 2 rfl rfl) ?_; clear E a; intro a E
        by_cases he2 : e6 = 0
        · skip
          refine Run.eqi rfl E rfl rfl rfl rfl (decide_eq_true (by omega)) ?_; clear E a; intro a E
          refine Run.move rfl E rfl rfl rfl ?_; clear E a; intro a E
          refine Run.move rfl E rfl rfl rfl ?_; clear E a; intro a E
          refine Run.move rfl E rfl rfl rfl ?_; clear E a; intro a E
          refine Run.len rfl E rfl rfl rfl Try.underlying32 ?_; clear E a; intro a E
          by_cases hif : l.length ≤ idx
          · skip
            refine Run.geq rfl E rfl rfl rfl rfl (decide_eq_true (by omega)) ?_; clear E a; intro a E
            refine Run.pickT rfl E rfl rfl rfl rfl ?_; clear E a; intro a E
            refine Run.nil ?_
            refine then_n ?_
            refine cond_T E rfl ?_
            refine region_plain (n := 4) [(0, .p), (1, .p), (2, .p), (3, .l)] rfl rfl ?_
            refine Run.move rfl E rfl rfl rfl ?_; clear E a; intro a E
            refine Run.nilCheck rfl E rfl rfl rfl ?_; clear E a; intro a E
            refine Run.fieldAddr rfl E rfl rfl rfl fo152_2 (rfl) ?_; clear E a; intro a E
            refine Run.store (news := [.int .i64 11]) (cs' := [_, _, _]) (hp' := [_, _]) 0 rfl E S rfl rfl rfl rfl rfl sz25 rfl rfl rfl rfl ?_; clear S; intro w S
            refine Run.nil ?_
            refine then_n ?_
            refine wp_seq ?_
            refine wp_seq ?_
            refine region_plain (n := 5) [(0, .p), (1, .p), (2, .p), (3, .l), (4, .p)] rfl rfl ?_
            refine Run.move rfl E rfl rfl rfl ?_; clear E a; intro a E
            refine Run.nilCheck rfl E rfl rfl rfl ?_; clear E a; intro a E
            refine Run.fieldAddr rfl E rfl rfl rfl fo152_2 (rfl) ?_; clear E a; intro a E
            refine Run.load1 rfl rfl E S rfl rfl rfl one25 (fun _ s => s.objCell 0 2 rfl rfl) ?_; clear E a; intro a E
            refine Run.nei rfl E rfl rfl rfl rfl (b := true) (by decide) ?_; clear E a; intro a E
            refine Run.nil ?_
            refine then_n ?_
            refine cond_T E rfl ?_
            refine wp_ret ?_
            refine then_r ?_
            refine blk_r ?_
            refine then_r ?_
            refine then_r ?_
            refine blk_r ?_
            have hfin : plR b at_ e l = (a5, 11, m) := by rw [hTl, show cnt - i = (cnt - (i + 1)) + 1 by omega]; exact plS_far (by rw [hml]; exact hr8) he2 (by omega)
            rw [hfin]; exact ret0' E Try.results106 ⟨rfl, S⟩
          · skip
            refine Run.geq rfl E rfl rfl rfl rfl (decide_eq_false (by omega)) ?_; clear E a; intro a E
            refine Run.pickT rfl E rfl rfl rfl rfl ?_; clear E a; intro a E
            refine Run.nil ?_
            refine then_n ?_
            refine cond_F E rfl ?_
            refine wp_skip ?_
            refine then_n ?_
            refine wp_seq ?_
            refine wp_seq ?_
            refine region_plain (n := 5) [(0, .p), (1, .p), (2, .p), (3, .l), (4, .p)] rfl rfl ?_
            refine Run.move rfl E rfl rfl rfl ?_; clear E a; intro a E
            refine Run.nilCheck rfl E rfl rfl rfl ?_; clear E a; intro a E
            refine Run.fieldAddr rfl E rfl rfl rfl fo152_2 (rfl) ?_; clear E a; intro a E
            refine Run.load1 rfl rfl E S rfl rfl rfl one25 (fun _ s => s.objCell 0 2 rfl rfl) ?_; clear E a; intro a E
            refine Run.nei rfl E rfl rfl rfl rfl (decide_eq_false (by omega)) ?_; clear E a; intro a E
            refine Run.nil ?_
            refine then_n ?_
            refine cond_F E rfl ?_
            refine wp_skip ?_
            refine then_n ?_
            refine wp_seq ?_
            refine region_plain (n := 4) [(0, .p), (1, .p), (2, .p), (3, .p)] rfl rfl ?_
            refine Run.move rfl E rfl rfl rfl ?_; clear E a; intro a E
            refine Run.move rfl E rfl rfl rfl ?_; clear E a; intro a E
            refine Run.add rfl E rfl rfl rfl rfl (i64_ok (by omega)) ?_; clear E a; intro a E
            refine Run.assign rfl E rfl rfl rfl ?_; clear E a; intro a E
            refine Run.nil ?_
            refine then_n ?_
            refine wp_seq ?_
            refine region_plain (n := 10) [(0, .p), (1, .p), (2, .p), (3, .p), (4, .p), (5, .p), (6, .l), (7, .l), (8, .p), (9, .l)] rfl rfl ?_
            refine Run.move rfl E rfl rfl rfl ?_; clear E a; intro a E
            refine Run.move rfl E rfl rfl rfl ?_; clear E a; intro a E
            refine Run.move rfl E rfl rfl rfl ?_; clear E a; intro a E
            refine Run.move rfl E rfl rfl rfl ?_; clear E a; intro a E
            refine Run.move rfl E rfl rfl rfl ?_; clear E a; intro a E
            have hjl : idx + v7.toNat < m.length := by omega
            have hxj : m[idx + v7.toNat]? = some (m[idx + v7.toNat]'hjl) := List.getElem?_eq_getElem hjl
            obtain ⟨bC, rfl⟩ := S.rowAddr 1 rfl (by omega)
            refine Run.indexAddr rfl E rfl rfl rfl rfl Try.underlying32 sz3 (by omega) (ix_at (m' := (idx + v7.toNat)) (o := (idx + v7.toNat)) (by omega) (Nat.mul_one _)) ?_; clear E a; intro a E
            refine Run.load1 rfl rfl E S rfl rfl rfl one3 (fun _ s_ => s_.rowCell 1 rfl (ints_get' hxj)) ?_; clear E a; intro a E
            refine Run.call (args := [.pointer (some ⟨r, 0, none⟩), .int .i64 (m[idx + v7.toNat]'hjl)]) rfl rfl E rfl rfl Try.func105 nm105 rfl rfl (more_walk (at_ := a5) (e := e6) (was := (m[idx + v7.toNat]'hjl)) (St.ownL (A := [.obj r 152 [.slice A b.length c, .int .i64 a5, .int .i64 (e6 : Int)]]) (R := [_]) S) (H1.chg S.chg hAw) hb8 hl hArw (hmr _ (List.getElem_mem hjl))) ?_; rintro e_ w ⟨rfl, S_⟩; refine ⟨_, rfl, (fun h => by cases h), ?_⟩; clear E a; intro a E
            replace S : St _ _ _ [_, _] := St.call (A := [.obj r 152 [.slice A b.length c, .int .i64 a5, .int .i64 (e6 : Int)]]) (R := [_]) S S_; clear S_
            obtain ⟨a9, e10, v11, hr12⟩ : ∃ (x : Int) (y : Nat) (z : Int), morR b a5 e6 = (x, y, z) := ⟨_, _, _, rfl⟩
            rw [hr12] at E S
            dsimp only at E S
            replace S : St _ _ _ [.obj r 152 [.slice A b.length c, .int .i64 a9, .int .i64 (e10 : Int)], .row (.slice (some ⟨bC, 0, none⟩) l.length d) 3 1 l.length (ints m)] := S
            refine Run.indexAddr rfl E rfl rfl rfl rfl Try.underlying32 sz3 (by omega) (ix_at (m' := (idx + v7.toNat)) (o := (idx + v7.toNat)) (by omega) (Nat.mul_one _)) ?_; clear E a; intro a E
            refine Run.storeRow (hp' := [_, _]) 1 rfl E S rfl rfl rfl rfl (by rw [ints_len]; omega) sz3 rfl rfl ?_; clear S; intro w S
            refine Run.nil ?_
            refine then_n ?_
            refine region_plain (n := 3) [(0, .p), (1, .p), (2, .p)] rfl rfl ?_
            refine Run.move rfl E rfl rfl rfl ?_; clear E a; intro a E
            refine Run.add rfl E rfl rfl rfl rfl (i64_ok (by omega)) ?_; clear E a; intro a E
            refine Run.assign rfl E rfl rfl rfl ?_; clear E a; intro a E
            refine Run.nil ?_
            refine blk_n ?_
            refine then_n ?_
            refine region_plain (n := 2) [(0, .p), (1, .p)] rfl rfl ?_
            refine Run.add rfl E rfl rfl rfl rfl (i64_ok (by omega)) ?_; clear E a; intro a E
            refine Run.move rfl E rfl rfl rfl ?_; clear E a; intro a E
            refine Run.nil ?_
            refine then_n ?_
            replace E := E.setv 24 rfl (show Value.int .i64 ((i : Int) + 1) = .int .i64 ((i + 1 : Nat) : Int) from rfl)
            replace E := E.setv 5 rfl (show Value.int .i64 (((idx : Int) + v7) + 1) = .int .i64 ((idx + v7.toNat + 1 : Nat) : Int) by congr 1; omega)
            have es : (ints m).set (idx + v7.toNat) (.int .i64 (IntKind.i64.wrap ((m[idx + v7.toNat]'hjl) + v11))) = ints (m.set (idx + v7.toNat) (IntKind.i64.wrap ((m[idx + v7.toNat]'hjl) + v11))) := by simp [ints, List.map_set]
            rw [es] at S
            exact ⟨_, (by omega), (i + 1), a9, e10, (idx + v7.toNat + 1), (m.set (idx + v7.toNat) (IntKind.i64.wrap ((m[idx + v7.toNat]'hjl) + v11))), rfl, E.keeps [(0, _), (1, _), (5, _), (23, _), (24, _)] ⟨rfl, rfl, rfl, rfl, rfl, trivial⟩, S, (by omega), (by simp; omega), (by omega), (fun x hx => by rcases List.mem_or_eq_of_mem_set hx with h | h; exact hmr x h; subst h; exact inr_wrap _), (by rw [hTl, show cnt - i = (cnt - (i + 1)) + 1 by omega, plS_go (by rw [hml]; exact hr8) he2 (by omega) hxj, show morR b a5 0 = (a9, e10, v11) by rw [← he2]; exact hr12])⟩
        · skip
          refine Run.eqi rfl E rfl rfl rfl rfl (decide_eq_false (by omega)) ?_; clear E a; intro a E
          refine Run.move rfl E rfl rfl rfl ?_; clear E a; intro a E
          refine Run.off rfl E rfl rfl ?_; clear E a; intro a E
          refine Run.off rfl E rfl rfl ?_; clear E a; intro a E
          refine Run.off rfl E rfl rfl ?_; clear E a; intro a E
          refine Run.off rfl E rfl rfl ?_; clear E a; intro a E
          refine Run.pickF rfl E rfl rfl rfl rfl ?_; clear E a; intro a E
          refine Run.nil ?_
          refine then_n ?_
          refine cond_F E rfl ?_
          refine wp_skip ?_
          refine then_n ?_
          refine wp_seq ?_
          refine wp_seq ?_
          refine region_plain (n := 5) [(0, .p), (1, .p), (2, .p), (3, .l), (4, .p)] rfl rfl ?_
          refine Run.move rfl E rfl rfl rfl ?_; clear E a; intro a E
          refine Run.nilCheck rfl E rfl rfl rfl ?_; clear E a; intro a E
          refine Run.fieldAddr rfl E rfl rfl rfl fo152_2 (rfl) ?_; clear E a; intro a E
          refine Run.load1 rfl rfl E S rfl rfl rfl one25 (fun _ s => s.objCell 0 2 rfl rfl) ?_; clear E a; intro a E
          refine Run.nei rfl E rfl rfl rfl rfl (decide_eq_true (by omega)) ?_; clear E a; intro a E
          refine Run.nil ?_
          refine then_n ?_
          refine cond_T E rfl ?_
          refine wp_ret ?_
          refine then_r ?_
          refine blk_r ?_
          refine then_r ?_
          refine then_r ?_
          refine blk_r ?_
          have hfin : plR b at_ e l = (a5, e6, m) := by rw [hTl, show cnt - i = (cnt - (i + 1)) + 1 by omega]; exact plS_err (by rw [hml]; exact hr8) (by omega)
          rw [hfin]; exact ret0' E Try.results106 ⟨rfl, S⟩
      · skip
        refine Run.lss rfl E rfl rfl rfl rfl (decide_eq_false (by omega)) ?_; clear E a; intro a E
        refine Run.nil ?_
        refine then_n ?_
        refine wp_seq ?_
        refine cond_F E rfl ?_
        refine wp_exit ?_
        refine then_x ?_
        refine then_x ?_
        refine blk_x ?_
        have hfin : plR b at_ e l = (p, q, m) := by rw [hTl, show cnt - i = 0 by omega]; rfl
        rw [hfin]; exact ret0 E Try.results106 ⟨rfl, S⟩
    · skip
      refine Run.eqi rfl E rfl rfl rfl rfl (decide_eq_false (by omega)) ?_; clear E a; intro a E
      refine Run.pickT rfl E rfl rfl rfl rfl ?_; clear E a; intro a E
      refine Run.nil ?_
      refine then_n ?_
      refine cond_F E rfl ?_
      refine wp_skip ?_
      refine then_n ?_
      refine wp_seq ?_
      refine region_plain (n := 1) [(0, .p)] rfl rfl ?_
      refine Run.assign rfl E rfl rfl rfl ?_; clear E a; intro a E
      refine Run.nil ?_
      refine then_n ?_
      refine wp_seq ?_
      refine region_plain (n := 2) [(0, .p), (1, .p)] rfl rfl ?_
      refine Run.move rfl E rfl rfl rfl ?_; clear E a; intro a E
      refine Run.move rfl E rfl rfl rfl ?_; clear E a; intro a E
      refine Run.nil ?_
      refine then_n ?_
      refine wp_block ?_
      obtain ⟨cnt, hcnt⟩ : ∃ cnt : Nat, (cnt : Int) = v3 := ⟨v3.toNat, by omega⟩
      have hT : plR b at_ e l = plS b cnt a1 e2 0 l := by unfold plR; rw [hr4]; dsimp only; rw [if_neg (by omega)]; congr 1; omega
      replace E := E.setv 23 rfl (show Value.int .i64 v3 = .int .i64 (cnt : Int) by rw [hcnt])
      refine wp_loop_ghost (fun n_ a w => ∃ i : Nat, ∃ p : Int, ∃ q : Nat, ∃ idx : Nat, ∃ m : List Int, cnt - i = n_ ∧ Env 68 [(0, .pointer (some ⟨r, 0, none⟩)), (1, .slice C l.length d), (5, .int .i64 (idx : Int)), (23, .int .i64 (cnt : Int)), (24, .int .i64 (i : Int))] a ∧ St _ _ w [.obj r 152 [.slice A b.length c, .int .i64 p, .int .i64 (q : Int)], .row (.slice C l.length d) 3 1 l.length (ints m)] ∧ (i ≤ cnt) ∧ (m.length = l.length) ∧ (idx ≤ l.length) ∧ (∀ x ∈ m, inr x) ∧ (plR b at_ e l = plS b (cnt - i) p q idx m)) _ ⟨0, a1, e2, 0, l, rfl, E.keeps [(0, _), (1, _), (5, _), (23, _), (24, _)] ⟨rfl, rfl, rfl, rfl, rfl, trivial⟩, S, Nat.zero_le _, rfl, Nat.zero_le _, hli, hT⟩ ?_
      clear E a S
      rintro n_ a w ⟨i, p, q, idx, m, rfl, E, S, hi, hml, hix, hmr, hTl⟩
      refine wp_seq ?_
      refine region_plain (n := 1) [(0, .p)] rfl rfl ?_
      by_cases hlt : i < cnt
      · skip
        refine Run.lss rfl E rfl rfl rfl rfl (decide_eq_true (by omega)) ?_; clear E a; intro a E
        refine Run.nil ?_
        refine then_n ?_
        refine wp_seq ?_
        refine cond_T E rfl ?_
        refine wp_skip ?_
        refine then_n ?_
        refine wp_seq ?_
        refine wp_block ?_
        refine wp_seq ?_
        refine region_plain (n := 9) [(0, .p), (1, .p), (2, .p), (3, .p), (4, .p), (5, .p), (6, .p), (7, .l), (8, .p)] rfl rfl ?_
        refine Run.move rfl E rfl rfl rfl ?_; clear E a; intro a E
        refine Run.move rfl E rfl rfl rfl ?_; clear E a; intro a E
        refine Run.len rfl E rfl rfl rfl Try.underlying32 ?_; clear E a; intro a E
        refine Run.sub rfl E rfl rfl rfl rfl (i64_ok (by omega)) ?_; clear E a; intro a E
        refine Run.move rfl E rfl rfl rfl ?_; clear E a; intro a E
        refine Run.sub rfl E rfl rfl rfl rfl (i64_ok (by omega)) ?_; clear E a; intro a E
        refine Run.max rfl E rfl rfl rfl rfl (q := (max ((l.length : Int) - 1 - (idx : Int)) 0)) (by split <;> omega) ?_; clear E a; intro a E
        refine Run.call (args := [.pointer (some ⟨r, 0, none⟩), .int .i64 (max ((l.length : Int) - 1 - (idx : Int)) 0)]) rfl rfl E rfl rfl Try.func104 nm104 rfl rfl (number_walk (at_ := p) (e := q) (most := (max ((l.length : Int) - 1 - (idx : Int)) 0)) (St.ownL (A := [.obj r 152 [.slice A b.length c, .int .i64 p, .int .i64 (q : Int)]]) (R := [_]) S) (H1.chg S.chg hAw) hb8 hl hArw (by omega) (by omega)) ?_; rintro e_ w ⟨rfl, S_⟩; refine ⟨_, rfl, (fun h => by cases h), ?_⟩; clear E a; intro a E
        replace S : St _ _ _ [_, _] := St.call (A := [.obj r 152 [.slice A b.length c, .int .i64 p, .int .i64 (q : Int)]]) (R := [_]) S S_; clear S_
        obtain ⟨a13, e14, v15, hr16⟩ : ∃ (x : Int) (y : Nat) (z : Int), numR b p q (max ((l.length : Int) - 1 - (idx : Int)) 0) = (x, y, z) := ⟨_, _, _, rfl⟩
        rw [hr16] at E S
        dsimp only at E S
        replace S : St _ _ _ [.obj r 152 [.slice A b.length c, .int .i64 a13, .int .i64 (e14 : Int)], .row (.slice C l.length d) 3 1 l.length (ints m)] := S
        have hvv15 := numR_ge b p q (max ((l.length : Int) - 1 - (idx : Int)) 0) (by omega); rw [hr16] at hvv15; dsimp only at hvv15
        refine Run.assign rfl E rfl rfl rfl ?_; clear E a; intro a E
        refine Run.nil ?_
        refine then_n ?_
        refine wp_seq ?_
        refine wp_seq ?_
        refine region_plain (n := 11) [(0, .p), (1, .p), (2, .p), (3, .l), (4, .p), (5, .p), (6, .p), (7, .p), (8, .p), (9, .p), (10, .p)] rfl rfl ?_
        refine Run.move rfl E rfl rfl rfl ?_; clear E a; intro a E
        refine Run.nilCheck rfl E rfl rfl rfl ?_; clear E a; intro a E
        refine Run.fieldAddr rfl E rfl rfl rfl fo152_2 (rfl) ?_; clear E a; intro a E
        refine Run.load1 rfl rfl E S rfl rfl rfl one25 (fun _ s => s.objCell 0 2 rfl rfl) ?_; clear E a; intro a E
        by_cases he2 : e14 = 0
        · skip
          refine Run.eqi rfl E rfl rfl rfl rfl (decide_eq_true (by omega)) ?_; clear E a; intro a E
          refine Run.move rfl E rfl rfl rfl ?_; clear E a; intro a E
          refine Run.move rfl E rfl rfl rfl ?_; clear E a; intro a E
          refine Run.move rfl E rfl rfl rfl ?_; clear E a; intro a E
          refine Run.len rfl E rfl rfl rfl Try.underlying32 ?_; clear E a; intro a E
          by_cases hif : l.length ≤ idx
          · skip
            refine Run.geq rfl E rfl rfl rfl rfl (decide_eq_true (by omega)) ?_; clear E a; intro a E
            refine Run.pickT rfl E rfl rfl rfl rfl ?_; clear E a; intro a E
            refine Run.nil ?_
            refine then_n ?_
            refine cond_T E rfl ?_
            refine region_plain (n := 4) [(0, .p), (1, .p), (2, .p), (3, .l)] rfl rfl ?_
            refine Run.move rfl E rfl rfl rfl ?_; clear E a; intro a E
            refine Run.nilCheck rfl E rfl rfl rfl ?_; clear E a; intro a E
            refine Run.fieldAddr rfl E rfl rfl rfl fo152_2 (rfl) ?_; clear E a; intro a E
            refine Run.store (news := [.int .i64 11]) (cs' := [_, _, _]) (hp' := [_, _]) 0 rfl E S rfl rfl rfl rfl rfl sz25 rfl rfl rfl rfl ?_; clear S; intro w S
            refine Run.nil ?_
            refine then_n ?_
            refine wp_seq ?_
            refine wp_seq ?_
            refine region_plain (n := 5) [(0, .p), (1, .p), (2, .p), (3, .l), (4, .p)] rfl rfl ?_
            refine Run.move rfl E rfl rfl rfl ?_; clear E a; intro a E
            refine Run.nilCheck rfl E rfl rfl rfl ?_; clear E a; intro a E
            refine Run.fieldAddr rfl E rfl rfl rfl fo152_2 (rfl) ?_; clear E a; intro a E
            refine Run.load1 rfl rfl E S rfl rfl rfl one25 (fun _ s => s.objCell 0 2 rfl rfl) ?_; clear E a; intro a E
            refine Run.nei rfl E rfl rfl rfl rfl (b := true) (by decide) ?_; clear E a; intro a E
            refine Run.nil ?_
            refine then_n ?_
            refine cond_T E rfl ?_
            refine wp_ret ?_
            refine then_r ?_
            refine blk_r ?_
            refine then_r ?_
            refine then_r ?_
            refine blk_r ?_
            have hfin : plR b at_ e l = (a13, 11, m) := by rw [hTl, show cnt - i = (cnt - (i + 1)) + 1 by omega]; exact plS_far (by rw [hml]; exact hr16) he2 (by omega)
            rw [hfin]; exact ret0' E Try.results106 ⟨rfl, S⟩
          · skip
            refine Run.geq rfl E rfl rfl rfl rfl (decide_eq_false (by omega)) ?_; clear E a; intro a E
            refine Run.pickT rfl E rfl rfl rfl rfl ?_; clear E a; intro a E
            refine Run.nil ?_
            refine then_n ?_
            refine cond_F E rfl ?_
            refine wp_skip ?_
            refine then_n ?_
            refine wp_seq ?_
            refine wp_seq ?_
            refine region_plain (n := 5) [(0, .p), (1, .p), (2, .p), (3, .l), (4, .p)] rfl rfl ?_
            refine Run.move rfl E rfl rfl rfl ?_; clear E a; intro a E
            refine Run.nilCheck rfl E rfl rfl rfl ?_; clear E a; intro a E
            refine Run.fieldAddr rfl E rfl rfl rfl fo152_2 (rfl) ?_; clear E a; intro a E
            refine Run.load1 rfl rfl E S rfl rfl rfl one25 (fun _ s => s.objCell 0 2 rfl rfl) ?_; clear E a; intro a E
            refine Run.nei rfl E rfl rfl rfl rfl (decide_eq_false (by omega)) ?_; clear E a; intro a E
            refine Run.nil ?_
            refine then_n ?_
            refine cond_F E rfl ?_
            refine wp_skip ?_
            refine then_n ?_
            refine wp_seq ?_
            refine region_plain (n := 4) [(0, .p), (1, .p), (2, .p), (3, .p)] rfl rfl ?_
            refine Run.move rfl E rfl rfl rfl ?_; clear E a; intro a E
            refine Run.move rfl E rfl rfl rfl ?_; clear E a; intro a E
            refine Run.add rfl E rfl rfl rfl rfl (i64_ok (by omega)) ?_; clear E a; intro a E
            refine Run.assign rfl E rfl rfl rfl ?_; clear E a; intro a E
            refine Run.nil ?_
            refine then_n ?_
            refine wp_seq ?_
            refine region_plain (n := 10) [(0, .p), (1, .p), (2, .p), (3, .p), (4, .p), (5, .p), (6, .l), (7, .l), (8, .p), (9, .l)] rfl rfl ?_
            refine Run.move rfl E rfl rfl rfl ?_; clear E a; intro a E
            refine Run.move rfl E rfl rfl rfl ?_; clear E a; intro a E
            refine Run.move rfl E rfl rfl rfl ?_; clear E a; intro a E
            refine Run.move rfl E rfl rfl rfl ?_; clear E a; intro a E
            refine Run.move rfl E rfl rfl rfl ?_; clear E a; intro a E
            have hjl : idx + v15.toNat < m.length := by omega
            have hxj : m[idx + v15.toNat]? = some (m[idx + v15.toNat]'hjl) := List.getElem?_eq_getElem hjl
            obtain ⟨bC, rfl⟩ := S.rowAddr 1 rfl (by omega)
            refine Run.indexAddr rfl E rfl rfl rfl rfl Try.underlying32 sz3 (by omega) (ix_at (m' := (idx + v15.toNat)) (o := (idx + v15.toNat)) (by omega) (Nat.mul_one _)) ?_; clear E a; intro a E
            refine Run.load1 rfl rfl E S rfl rfl rfl one3 (fun _ s_ => s_.rowCell 1 rfl (ints_get' hxj)) ?_; clear E a; intro a E
            refine Run.call (args := [.pointer (some ⟨r, 0, none⟩), .int .i64 (m[idx + v15.toNat]'hjl)]) rfl rfl E rfl rfl Try.func105 nm105 rfl rfl (more_walk (at_ := a13) (e := e14) (was := (m[idx + v15.toNat]'hjl)) (St.ownL (A := [.obj r 152 [.slice A b.length c, .int .i64 a13, .int .i64 (e14 : Int)]]) (R := [_]) S) (H1.chg S.chg hAw) hb8 hl hArw (hmr _ (List.getElem_mem hjl))) ?_; rintro e_ w ⟨rfl, S_⟩; refine ⟨_, rfl, (fun h => by cases h), ?_⟩; clear E a; intro a E
            replace S : St _ _ _ [_, _] := St.call (A := [.obj r 152 [.slice A b.length c, .int .i64 a13, .int .i64 (e14 : Int)]]) (R := [_]) S S_; clear S_
            obtain ⟨a17, e18, v19, hr20⟩ : ∃ (x : Int) (y : Nat) (z : Int), morR b a13 e14 = (x, y, z) := ⟨_, _, _, rfl⟩
            rw [hr20] at E S
            dsimp only at E S
            replace S : St _ _ _ [.obj r 152 [.slice A b.length c, .int .i64 a17, .int .i64 (e18 : Int)], .row (.slice (some ⟨bC, 0, none⟩) l.length d) 3 1 l.length (ints m)] := S
            refine Run.indexAddr rfl E rfl rfl rfl rfl Try.underlying32 sz3 (by omega) (ix_at (m' := (idx + v15.toNat)) (o := (idx + v15.toNat)) (by omega) (Nat.mul_one _)) ?_; clear E a; intro a E
            refine Run.storeRow (hp' := [_, _]) 1 rfl E S rfl rfl rfl rfl (by rw [ints_len]; omega) sz3 rfl rfl ?_; clear S; intro w S
            refine Run.nil ?_
            refine then_n ?_
            refine region_plain (n := 3) [(0, .p), (1, .p), (2, .p)] rfl rfl ?_
            refine Run.move rfl E rfl rfl rfl ?_; clear E a; intro a E
            refine Run.add rfl E rfl rfl rfl rfl (i64_ok (by omega)) ?_; clear E a; intro a E
            refine Run.assign rfl E rfl rfl rfl ?_; clear E a; intro a E
            refine Run.nil ?_
            refine blk_n ?_
            refine then_n ?_
            refine region_plain (n := 2) [(0, .p), (1, .p)] rfl rfl ?_
            refine Run.add rfl E rfl rfl rfl rfl (i64_ok (by omega)) ?_; clear E a; intro a E
            refine Run.move rfl E rfl rfl rfl ?_; clear E a; intro a E
            refine Run.nil ?_
            refine then_n ?_
            replace E := E.setv 24 rfl (show Value.int .i64 ((i : Int) + 1) = .int .i64 ((i + 1 : Nat) : Int) from rfl)
            replace E := E.setv 5 rfl (show Value.int .i64 (((idx : Int) + v15) + 1) = .int .i64 ((idx + v15.toNat + 1 : Nat) : Int) by congr 1; omega)
            have es : (ints m).set (idx + v15.toNat) (.int .i64 (IntKind.i64.wrap ((m[idx + v15.toNat]'hjl) + v19))) = ints (m.set (idx + v15.toNat) (IntKind.i64.wrap ((m[idx + v15.toNat]'hjl) + v19))) := by simp [ints, List.map_set]
            rw [es] at S
            exact ⟨_, (by omega), (i + 1), a17, e18, (idx + v15.toNat + 1), (m.set (idx + v15.toNat) (IntKind.i64.wrap ((m[idx + v15.toNat]'hjl) + v19))), rfl, E.keeps [(0, _), (1, _), (5, _), (23, _), (24, _)] ⟨rfl, rfl, rfl, rfl, rfl, trivial⟩, S, (by omega), (by simp; omega), (by omega), (fun x hx => by rcases List.mem_or_eq_of_mem_set hx with h | h; exact hmr x h; subst h; exact inr_wrap _), (by rw [hTl, show cnt - i = (cnt - (i + 1)) + 1 by omega, plS_go (by rw [hml]; exact hr16) he2 (by omega) hxj, show morR b a13 0 = (a17, e18, v19) by rw [← he2]; exact hr20])⟩
        · skip
          refine Run.eqi rfl E rfl rfl rfl rfl (decide_eq_false (by omega)) ?_; clear E a; intro a E
          refine Run.move rfl E rfl rfl rfl ?_; clear E a; intro a E
          refine Run.off rfl E rfl rfl ?_; clear E a; intro a E
          refine Run.off rfl E rfl rfl ?_; clear E a; intro a E
          refine Run.off rfl E rfl rfl ?_; clear E a; intro a E
          refine Run.off rfl E rfl rfl ?_; clear E a; intro a E
          refine Run.pickF rfl E rfl rfl rfl rfl ?_; clear E a; intro a E
          refine Run.nil ?_
          refine then_n ?_
          refine cond_F E rfl ?_
          refine wp_skip ?_
          refine then_n ?_
          refine wp_seq ?_
          refine wp_seq ?_
          refine region_plain (n := 5) [(0, .p), (1, .p), (2, .p), (3, .l), (4, .p)] rfl rfl ?_
          refine Run.move rfl E rfl rfl rfl ?_; clear E a; intro a E
          refine Run.nilCheck rfl E rfl rfl rfl ?_; clear E a; intro a E
          refine Run.fieldAddr rfl E rfl rfl rfl fo152_2 (rfl) ?_; clear E a; intro a E
          refine Run.load1 rfl rfl E S rfl rfl rfl one25 (fun _ s => s.objCell 0 2 rfl rfl) ?_; clear E a; intro a E
          refine Run.nei rfl E rfl rfl rfl rfl (decide_eq_true (by omega)) ?_; clear E a; intro a E
          refine Run.nil ?_
          refine then_n ?_
          refine cond_T E rfl ?_
          refine wp_ret ?_
          refine then_r ?_
          refine blk_r ?_
          refine then_r ?_
          refine then_r ?_
          refine blk_r ?_
          have hfin : plR b at_ e l = (a13, e14, m) := by rw [hTl, show cnt - i = (cnt - (i + 1)) + 1 by omega]; exact plS_err (by rw [hml]; exact hr16) (by omega)
          rw [hfin]; exact ret0' E Try.results106 ⟨rfl, S⟩
      · skip
        refine Run.lss rfl E rfl rfl rfl rfl (decide_eq_false (by omega)) ?_; clear E a; intro a E
        refine Run.nil ?_
        refine then_n ?_
        refine wp_seq ?_
        refine cond_F E rfl ?_
        refine wp_exit ?_
        refine then_x ?_
        refine then_x ?_
        refine blk_x ?_
        have hfin : plR b at_ e l = (p, q, m) := by rw [hTl, show cnt - i = 0 by omega]; rfl
        rw [hfin]; exact ret0 E Try.results106 ⟨rfl, S⟩
  · skip
    refine Run.eqi rfl E rfl rfl rfl rfl (decide_eq_false (hn0)) ?_; clear E a; intro a E
    refine Run.move rfl E rfl rfl rfl ?_; clear E a; intro a E
    refine Run.off rfl E rfl rfl ?_; clear E a; intro a E
    refine Run.off rfl E rfl rfl ?_; clear E a; intro a E
    refine Run.off rfl E rfl rfl ?_; clear E a; intro a E
    refine Run.off rfl E rfl rfl ?_; clear E a; intro a E
    refine Run.off rfl E rfl rfl ?_; clear E a; intro a E
    refine Run.pickF rfl E rfl rfl rfl rfl ?_; clear E a; intro a E
    refine Run.nil ?_
    refine then_n ?_
    refine cond_F E rfl ?_
    refine wp_skip ?_
    refine then_n ?_
    refine wp_seq ?_
    refine region_plain (n := 1) [(0, .p)] rfl rfl ?_
    refine Run.assign rfl E rfl rfl rfl ?_; clear E a; intro a E
    refine Run.nil ?_
    refine then_n ?_
    refine wp_seq ?_
    refine region_plain (n := 2) [(0, .p), (1, .p)] rfl rfl ?_
    refine Run.move rfl E rfl rfl rfl ?_; clear E a; intro a E
    refine Run.move rfl E rfl rfl rfl ?_; clear E a; intro a E
    refine Run.nil ?_
    refine then_n ?_
    refine wp_block ?_
    obtain ⟨cnt, hcnt⟩ : ∃ cnt : Nat, (cnt : Int) = v3 := ⟨v3.toNat, by omega⟩
    have hT : plR b at_ e l = plS b cnt a1 e2 0 l := by unfold plR; rw [hr4]; dsimp only; rw [if_neg (by omega)]; congr 1; omega
    replace E := E.setv 23 rfl (show Value.int .i64 v3 = .int .i64 (cnt : Int) by rw [hcnt])
    refine wp_loop_ghost (fun n_ a w => ∃ i : Nat, ∃ p : Int, ∃ q : Nat, ∃ idx : Nat, ∃ m : List Int, cnt - i = n_ ∧ Env 68 [(0, .pointer (some ⟨r, 0, none⟩)), (1, .slice C l.length d), (5, .int .i64 (idx : Int)), (23, .int .i64 (cnt : Int)), (24, .int .i64 (i : Int))] a ∧ St _ _ w [.obj r 152 [.slice A b.length c, .int .i64 p, .int .i64 (q : Int)], .row (.slice C l.length d) 3 1 l.length (ints m)] ∧ (i ≤ cnt) ∧ (m.length = l.length) ∧ (idx ≤ l.length) ∧ (∀ x ∈ m, inr x) ∧ (plR b at_ e l = plS b (cnt - i) p q idx m)) _ ⟨0, a1, e2, 0, l, rfl, E.keeps [(0, _), (1, _), (5, _), (23, _), (24, _)] ⟨rfl, rfl, rfl, rfl, rfl, trivial⟩, S, Nat.zero_le _, rfl, Nat.zero_le _, hli, hT⟩ ?_
    clear E a S
    rintro n_ a w ⟨i, p, q, idx, m, rfl, E, S, hi, hml, hix, hmr, hTl⟩
    refine wp_seq ?_
    refine region_plain (n := 1) [(0, .p)] rfl rfl ?_
    by_cases hlt : i < cnt
    · skip
      refine Run.lss rfl E rfl rfl rfl rfl (decide_eq_true (by omega)) ?_; clear E a; intro a E
      refine Run.nil ?_
      refine then_n ?_
      refine wp_seq ?_
      refine cond_T E rfl ?_
      refine wp_skip ?_
      refine then_n ?_
      refine wp_seq ?_
      refine wp_block ?_
      refine wp_seq ?_
      refine region_plain (n := 9) [(0, .p), (1, .p), (2, .p), (3, .p), (4, .p), (5, .p), (6, .p), (7, .l), (8, .p)] rfl rfl ?_
      refine Run.move rfl E rfl rfl rfl ?_; clear E a; intro a E
      refine Run.move rfl E rfl rfl rfl ?_; clear E a; intro a E
      refine Run.len rfl E rfl rfl rfl Try.underlying32 ?_; clear E a; intro a E
      refine Run.sub rfl E rfl rfl rfl rfl (i64_ok (by omega)) ?_; clear E a; intro a E
      refine Run.move rfl E rfl rfl rfl ?_; clear E a; intro a E
      refine Run.sub rfl E rfl rfl rfl rfl (i64_ok (by omega)) ?_; clear E a; intro a E
      refine Run.max rfl E rfl rfl rfl rfl (q := (max ((l.length : Int) - 1 - (idx : Int)) 0)) (by split <;> omega) ?_; clear E a; intro a E
      refine Run.call (args := [.pointer (some ⟨r, 0, none⟩), .int .i64 (max ((l.length : Int) - 1 - (idx : Int)) 0)]) rfl rfl E rfl rfl Try.func104 nm104 rfl rfl (number_walk (at_ := p) (e := q) (most := (max ((l.length : Int) - 1 - (idx : Int)) 0)) (St.ownL (A := [.obj r 152 [.slice A b.length c, .int .i64 p, .int .i64 (q : Int)]]) (R := [_]) S) (H1.chg S.chg hAw) hb8 hl hArw (by omega) (by omega)) ?_; rintro e_ w ⟨rfl, S_⟩; refine ⟨_, rfl, (fun h => by cases h), ?_⟩; clear E a; intro a E
      replace S : St _ _ _ [_, _] := St.call (A := [.obj r 152 [.slice A b.length c, .int .i64 p, .int .i64 (q : Int)]]) (R := [_]) S S_; clear S_
      obtain ⟨a21, e22, v23, hr24⟩ : ∃ (x : Int) (y : Nat) (z : Int), numR b p q (max ((l.length : Int) - 1 - (idx : Int)) 0) = (x, y, z) := ⟨_, _, _, rfl⟩
      rw [hr24] at E S
      dsimp only at E S
      replace S : St _ _ _ [.obj r 152 [.slice A b.length c, .int .i64 a21, .int .i64 (e22 : Int)], .row (.slice C l.length d) 3 1 l.length (ints m)] := S
      have hvv23 := numR_ge b p q (max ((l.length : Int) - 1 - (idx : Int)) 0) (by omega); rw [hr24] at hvv23; dsimp only at hvv23
      refine Run.assign rfl E rfl rfl rfl ?_; clear E a; intro a E
      refine Run.nil ?_
      refine then_n ?_
      refine wp_seq ?_
      refine wp_seq ?_
      refine region_plain (n := 11) [(0, .p), (1, .p), (2, .p), (3, .l), (4, .p), (5, .p), (6, .p), (7, .p), (8, .p), (9, .p), (10, .p)] rfl rfl ?_
      refine Run.move rfl E rfl rfl rfl ?_; clear E a; intro a E
      refine Run.nilCheck rfl E rfl rfl rfl ?_; clear E a; intro a E
      refine Run.fieldAddr rfl E rfl rfl rfl fo152_2 (rfl) ?_; clear E a; intro a E
      refine Run.load1 rfl rfl E S rfl rfl rfl one25 (fun _ s => s.objCell 0 2 rfl rfl) ?_; clear E a; intro a E
      by_cases he2 : e22 = 0
      · skip
        refine Run.eqi rfl E rfl rfl rfl rfl (decide_eq_true (by omega)) ?_; clear E a; intro a E
        refine Run.move rfl E rfl rfl rfl ?_; clear E a; intro a E
        refine Run.move rfl E rfl rfl rfl ?_; clear E a; intro a E
        refine Run.move rfl E rfl rfl rfl ?_; clear E a; intro a E
        refine Run.len rfl E rfl rfl rfl Try.underlying32 ?_; clear E a; intro a E
        by_cases hif : l.length ≤ idx
        · skip
          refine Run.geq rfl E rfl rfl rfl rfl (decide_eq_true (by omega)) ?_; clear E a; intro a E
          refine Run.pickT rfl E rfl rfl rfl rfl ?_; clear E a; intro a E
          refine Run.nil ?_
          refine then_n ?_
          refine cond_T E rfl ?_
          refine region_plain (n := 4) [(0, .p), (1, .p), (2, .p), (3, .l)] rfl rfl ?_
          refine Run.move rfl E rfl rfl rfl ?_; clear E a; intro a E
          refine Run.nilCheck rfl E rfl rfl rfl ?_; clear E a; intro a E
          refine Run.fieldAddr rfl E rfl rfl rfl fo152_2 (rfl) ?_; clear E a; intro a E
          refine Run.store (news := [.int .i64 11]) (cs' := [_, _, _]) (hp' := [_, _]) 0 rfl E S rfl rfl rfl rfl rfl sz25 rfl rfl rfl rfl ?_; clear S; intro w S
          refine Run.nil ?_
          refine then_n ?_
          refine wp_seq ?_
          refine wp_seq ?_
          refine region_plain (n := 5) [(0, .p), (1, .p), (2, .p), (3, .l), (4, .p)] rfl rfl ?_
          refine Run.move rfl E rfl rfl rfl ?_; clear E a; intro a E
          refine Run.nilCheck rfl E rfl rfl rfl ?_; clear E a; intro a E
          refine Run.fieldAddr rfl E rfl rfl rfl fo152_2 (rfl) ?_; clear E a; intro a E
          refine Run.load1 rfl rfl E S rfl rfl rfl one25 (fun _ s => s.objCell 0 2 rfl rfl) ?_; clear E a; intro a E
          refine Run.nei rfl E rfl rfl rfl rfl (b := true) (by decide) ?_; clear E a; intro a E
          refine Run.nil ?_
          refine then_n ?_
          refine cond_T E rfl ?_
          refine wp_ret ?_
          refine then_r ?_
          refine blk_r ?_
          refine then_r ?_
          refine then_r ?_
          refine blk_r ?_
          have hfin : plR b at_ e l = (a21, 11, m) := by rw [hTl, show cnt - i = (cnt - (i + 1)) + 1 by omega]; exact plS_far (by rw [hml]; exact hr24) he2 (by omega)
          rw [hfin]; exact ret0' E Try.results106 ⟨rfl, S⟩
        · skip
          refine Run.geq rfl E rfl rfl rfl rfl (decide_eq_false (by omega)) ?_; clear E a; intro a E
          refine Run.pickT rfl E rfl rfl rfl rfl ?_; clear E a; intro a E
          refine Run.nil ?_
          refine then_n ?_
          refine cond_F E rfl ?_
          refine wp_skip ?_
          refine then_n ?_
          refine wp_seq ?_
          refine wp_seq ?_
          refine region_plain (n := 5) [(0, .p), (1, .p), (2, .p), (3, .l), (4, .p)] rfl rfl ?_
          refine Run.move rfl E rfl rfl rfl ?_; clear E a; intro a E
          refine Run.nilCheck rfl E rfl rfl rfl ?_; clear E a; intro a E
          refine Run.fieldAddr rfl E rfl rfl rfl fo152_2 (rfl) ?_; clear E a; intro a E
          refine Run.load1 rfl rfl E S rfl rfl rfl one25 (fun _ s => s.objCell 0 2 rfl rfl) ?_; clear E a; intro a E
          refine Run.nei rfl E rfl rfl rfl rfl (decide_eq_false (by omega)) ?_; clear E a; intro a E
          refine Run.nil ?_
          refine then_n ?_
          refine cond_F E rfl ?_
          refine wp_skip ?_
          refine then_n ?_
          refine wp_seq ?_
          refine region_plain (n := 4) [(0, .p), (1, .p), (2, .p), (3, .p)] rfl rfl ?_
          refine Run.move rfl E rfl rfl rfl ?_; clear E a; intro a E
          refine Run.move rfl E rfl rfl rfl ?_; clear E a; intro a E
          refine Run.add rfl E rfl rfl rfl rfl (i64_ok (by omega)) ?_; clear E a; intro a E
          refine Run.assign rfl E rfl rfl rfl ?_; clear E a; intro a E
          refine Run.nil ?_
          refine then_n ?_
          refine wp_seq ?_
          refine region_plain (n := 10) [(0, .p), (1, .p), (2, .p), (3, .p), (4, .p), (5, .p), (6, .l), (7, .l), (8, .p), (9, .l)] rfl rfl ?_
          refine Run.move rfl E rfl rfl rfl ?_; clear E a; intro a E
          refine Run.move rfl E rfl rfl rfl ?_; clear E a; intro a E
          refine Run.move rfl E rfl rfl rfl ?_; clear E a; intro a E
          refine Run.move rfl E rfl rfl rfl ?_; clear E a; intro a E
          refine Run.move rfl E rfl rfl rfl ?_; clear E a; intro a E
          have hjl : idx + v23.toNat < m.length := by omega
          have hxj : m[idx + v23.toNat]? = some (m[idx + v23.toNat]'hjl) := List.getElem?_eq_getElem hjl
          obtain ⟨bC, rfl⟩ := S.rowAddr 1 rfl (by omega)
          refine Run.indexAddr rfl E rfl rfl rfl rfl Try.underlying32 sz3 (by omega) (ix_at (m' := (idx + v23.toNat)) (o := (idx + v23.toNat)) (by omega) (Nat.mul_one _)) ?_; clear E a; intro a E
          refine Run.load1 rfl rfl E S rfl rfl rfl one3 (fun _ s_ => s_.rowCell 1 rfl (ints_get' hxj)) ?_; clear E a; intro a E
          refine Run.call (args := [.pointer (some ⟨r, 0, none⟩), .int .i64 (m[idx + v23.toNat]'hjl)]) rfl rfl E rfl rfl Try.func105 nm105 rfl rfl (more_walk (at_ := a21) (e := e22) (was := (m[idx + v23.toNat]'hjl)) (St.ownL (A := [.obj r 152 [.slice A b.length c, .int .i64 a21, .int .i64 (e22 : Int)]]) (R := [_]) S) (H1.chg S.chg hAw) hb8 hl hArw (hmr _ (List.getElem_mem hjl))) ?_; rintro e_ w ⟨rfl, S_⟩; refine ⟨_, rfl, (fun h => by cases h), ?_⟩; clear E a; intro a E
          replace S : St _ _ _ [_, _] := St.call (A := [.obj r 152 [.slice A b.length c, .int .i64 a21, .int .i64 (e22 : Int)]]) (R := [_]) S S_; clear S_
          obtain ⟨a25, e26, v27, hr28⟩ : ∃ (x : Int) (y : Nat) (z : Int), morR b a21 e22 = (x, y, z) := ⟨_, _, _, rfl⟩
          rw [hr28] at E S
          dsimp only at E S
          replace S : St _ _ _ [.obj r 152 [.slice A b.length c, .int .i64 a25, .int .i64 (e26 : Int)], .row (.slice (some ⟨bC, 0, none⟩) l.length d) 3 1 l.length (ints m)] := S
          refine Run.indexAddr rfl E rfl rfl rfl rfl Try.underlying32 sz3 (by omega) (ix_at (m' := (idx + v23.toNat)) (o := (idx + v23.toNat)) (by omega) (Nat.mul_one _)) ?_; clear E a; intro a E
          refine Run.storeRow (hp' := [_, _]) 1 rfl E S rfl rfl rfl rfl (by rw [ints_len]; omega) sz3 rfl rfl ?_; clear S; intro w S
          refine Run.nil ?_
          refine then_n ?_
          refine region_plain (n := 3) [(0, .p), (1, .p), (2, .p)] rfl rfl ?_
          refine Run.move rfl E rfl rfl rfl ?_; clear E a; intro a E
          refine Run.add rfl E rfl rfl rfl rfl (i64_ok (by omega)) ?_; clear E a; intro a E
          refine Run.assign rfl E rfl rfl rfl ?_; clear E a; intro a E
          refine Run.nil ?_
          refine blk_n ?_
          refine then_n ?_
          refine region_plain (n := 2) [(0, .p), (1, .p)] rfl rfl ?_
          refine Run.add rfl E rfl rfl rfl rfl (i64_ok (by omega)) ?_; clear E a; intro a E
          refine Run.move rfl E rfl rfl rfl ?_; clear E a; intro a E
          refine Run.nil ?_
          refine then_n ?_
          replace E := E.setv 24 rfl (show Value.int .i64 ((i : Int) + 1) = .int .i64 ((i + 1 : Nat) : Int) from rfl)
          replace E := E.setv 5 rfl (show Value.int .i64 (((idx : Int) + v23) + 1) = .int .i64 ((idx + v23.toNat + 1 : Nat) : Int) by congr 1; omega)
          have es : (ints m).set (idx + v23.toNat) (.int .i64 (IntKind.i64.wrap ((m[idx + v23.toNat]'hjl) + v27))) = ints (m.set (idx + v23.toNat) (IntKind.i64.wrap ((m[idx + v23.toNat]'hjl) + v27))) := by simp [ints, List.map_set]
          rw [es] at S
          exact ⟨_, (by omega), (i + 1), a25, e26, (idx + v23.toNat + 1), (m.set (idx + v23.toNat) (IntKind.i64.wrap ((m[idx + v23.toNat]'hjl) + v27))), rfl, E.keeps [(0, _), (1, _), (5, _), (23, _), (24, _)] ⟨rfl, rfl, rfl, rfl, rfl, trivial⟩, S, (by omega), (by simp; omega), (by omega), (fun x hx => by rcases List.mem_or_eq_of_mem_set hx with h | h; exact hmr x h; subst h; exact inr_wrap _), (by rw [hTl, show cnt - i = (cnt - (i + 1)) + 1 by omega, plS_go (by rw [hml]; exact hr24) he2 (by omega) hxj, show morR b a21 0 = (a25, e26, v27) by rw [← he2]; exact hr28])⟩
      · skip
        refine Run.eqi rfl E rfl rfl rfl rfl (decide_eq_false (by omega)) ?_; clear E a; intro a E
        refine Run.move rfl E rfl rfl rfl ?_; clear E a; intro a E
        refine Run.off rfl E rfl rfl ?_; clear E a; intro a E
        refine Run.off rfl E rfl rfl ?_; clear E a; intro a E
        refine Run.off rfl E rfl rfl ?_; clear E a; intro a E
        refine Run.off rfl E rfl rfl ?_; clear E a; intro a E
        refine Run.pickF rfl E rfl rfl rfl rfl ?_; clear E a; intro a E
        refine Run.nil ?_
        refine then_n ?_
        refine cond_F E rfl ?_
        refine wp_skip ?_
        refine then_n ?_
        refine wp_seq ?_
        refine wp_seq ?_
        refine region_plain (n := 5) [(0, .p), (1, .p), (2, .p), (3, .l), (4, .p)] rfl rfl ?_
        refine Run.move rfl E rfl rfl rfl ?_; clear E a; intro a E
        refine Run.nilCheck rfl E rfl rfl rfl ?_; clear E a; intro a E
        refine Run.fieldAddr rfl E rfl rfl rfl fo152_2 (rfl) ?_; clear E a; intro a E
        refine Run.load1 rfl rfl E S rfl rfl rfl one25 (fun _ s => s.objCell 0 2 rfl rfl) ?_; clear E a; intro a E
        refine Run.nei rfl E rfl rfl rfl rfl (decide_eq_true (by omega)) ?_; clear E a; intro a E
        refine Run.nil ?_
        refine then_n ?_
        refine cond_T E rfl ?_
        refine wp_ret ?_
        refine then_r ?_
        refine blk_r ?_
        refine then_r ?_
        refine then_r ?_
        refine blk_r ?_
        have hfin : plR b at_ e l = (a21, e22, m) := by rw [hTl, show cnt - i = (cnt - (i + 1)) + 1 by omega]; exact plS_err (by rw [hml]; exact hr24) (by omega)
        rw [hfin]; exact ret0' E Try.results106 ⟨rfl, S⟩
    · skip
      refine Run.lss rfl E rfl rfl rfl rfl (decide_eq_false (by omega)) ?_; clear E a; intro a E
      refine Run.nil ?_
      refine then_n ?_
      refine wp_seq ?_
      refine cond_F E rfl ?_
      refine wp_exit ?_
      refine then_x ?_
      refine then_x ?_
      refine blk_x ?_
      have hfin : plR b at_ e l = (p, q, m) := by rw [hTl, show cnt - i = 0 by omega]; rfl
      rw [hfin]; exact ret0 E Try.results106 ⟨rfl, S⟩

end
end Go.Proofs.Ytlcglefbhlhcpaa.K
