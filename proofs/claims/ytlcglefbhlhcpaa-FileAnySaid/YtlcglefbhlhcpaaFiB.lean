/- A file is opened. -/
import Derived.Test.YtlcglefbhlhcpaaKg
import Derived.Test.YtlcglefbhlhcpaaFiA
namespace Go.Proofs.Ytlcglefbhlhcpaa.K
open Go.RowKit
set_option linter.unusedVariables false
set_option maxRecDepth 100000
set_option maxHeartbeats 400000

section
variable {w0 : World} {A0 : Option Addr} {c0 : Nat} {b : List Nat} {G ev : Nat} {ts : List Sta}

set_option maxHeartbeats 4000000 in
theorem open_walk (H1 : Rd w0 A0 b.length 1 (u8s b)) (hb8 : ∀ x ∈ b, x < 256) (hl : b.length ≤ 140737488355328) (hbc : b.length ≤ c0) : Calls Try.prog 23 [.slice A0 b.length c0].toArray w0 (fun r_ w' => (opnF b = none ∧ r_ = .returned (.tuple #[.pointer none, .int .i64 11]) ∧ Bel w0 w') ∨ (∃ G ev ts, opnF b = some (G, ev, ts) ∧ ∃ g A c B d C e, r_ = .returned (.tuple #[.pointer (some ⟨g, 0, none⟩), .int .i64 0]) ∧ St [] w0 w' [.obj g 128 [.int .i64 (G : Int), .int .i64 (ev : Int), .int .i64 16777216, .slice A ((tbytes G ev ts).length) c, .slice B ((tstarts G ev ts).length) d, .int .i64 ((lastS ts).kind), .int .i64 ((lastS ts).node), .int .i64 ((lastS ts).phase), .int .i64 ((lastS ts).pos), .int .i64 ((lastS ts).start), .int .i64 ((lastS ts).depth), .int .i64 ((lastS ts).org), .slice C ((lastS ts).caps.length) e], .row (.slice A ((tbytes G ev ts).length) c) 5 1 ((tbytes G ev ts).length) (u8s (tbytes G ev ts)), .row (.slice B ((tstarts G ev ts).length) d) 3 1 ((tstarts G ev ts).length) (ints (tstarts G ev ts)), .row (.slice C ((lastS ts).caps.length) e) 3 1 ((lastS ts).caps.length) (ints (lastS ts).caps)])) := by
  have S := St.nil [] w0
  refine fn_start Try.func23 rfl 57 rfl rfl [(0, _)] ⟨rfl, trivial⟩ ?_; intro a E
  refine wp_seq ?_
  refine region_plain (n := 2) [(0, .p), (1, .p)] rfl rfl ?_
  refine Run.assign rfl E rfl rfl rfl ?_; clear E a; intro a E
  refine Run.assign rfl E rfl rfl rfl ?_; clear E a; intro a E
  refine Run.nil ?_
  refine then_n ?_
  refine wp_seq ?_
  refine wp_seq ?_
  refine region_plain (n := 5) [(0, .p), (1, .e), (2, .l), (3, .e), (4, .p)] rfl rfl ?_
  refine Run.move rfl E rfl rfl rfl ?_; clear E a; intro a E
  refine Run.buildSlice (cs := [.int .u8 67, .int .u8 76, .int .u8 87, .int .u8 49]) [(0, .int .u8 67), (1, .int .u8 76), (2, .int .u8 87), (3, .int .u8 49)] rfl rfl E S rfl rfl rfl Try.underlying22 (by kernel_rfl) ?_; clear E a S; intro b1 w a E S B_; clear B_
  refine Run.convMark rfl E S rfl rfl rfl rfl Try.underlying22 Try.underlying5 ?_; clear E a S; intro w a E S Hm
  replace Hm : Rd _ _ _ 1 (u8s magicB) := Hm
  refine Run.call (args := [.slice A0 b.length c0, .slice (some ⟨b1, 0, none⟩) 4 4]) rfl rfl E rfl rfl Try.func81 nm81 rfl rfl (hpre_walk (m := magicB) (H1.bel S.belT) hb8 hbc Hm (by decide)) ?_; rintro e_ w ⟨rfl, B_⟩; refine ⟨_, rfl, fun _ => B_, ?_⟩; clear E a; replace S := S.bel B_; intro a E
  clear B_
  by_cases hp : b.take 4 = magicB
  · skip
    replace E := E.setb 14 rfl (decide_eq_true hp)
    have h4 := take4_len hp
    refine Run.not rfl E rfl rfl rfl rfl ?_; clear E a; intro a E
    refine Run.nil ?_
    refine then_n ?_
    refine cond_F E rfl ?_
    refine wp_skip ?_
    refine then_n ?_
    refine wp_seq ?_
    refine region_plain (n := 4) [(0, .p), (1, .p), (2, .e), (3, .p)] rfl rfl ?_
    refine Run.move rfl E rfl rfl rfl ?_; clear E a; intro a E
    refine Run.build (cs := #[.slice A0 b.length c0, .int .i64 4, .bool false]) [(0, .slice A0 b.length c0), (1, .int .i64 4)] rfl E rfl rfl rfl (by kernel_rfl) ?_; clear E a; intro a E
    refine Run.box (cs := [.slice A0 b.length c0, .int .i64 4, .bool false]) rfl rfl E S rfl rfl rfl rfl ?_; clear E a S; intro b2 w a E S B_; clear B_
    replace S : St _ _ _ [.obj b2 120 [.slice A0 b.length c0, .int .i64 4, .bool (decide ((0 : Nat) ≠ 0))]] := S
    have hrf := (S.fresh b2 (by simp [fps, Ck.fp])).resolve_left (by simp)
    have hAr : 0 < b.length → ∀ b_ o, A0 = some ⟨b_, o, none⟩ → b_ ∉ [b2] := fun h b_ o e hm => by have := H1.lt h (by decide) e; rw [List.mem_singleton.1 hm] at this; omega
    refine Run.assign rfl E rfl rfl rfl ?_; clear E a; intro a E
    refine Run.nil ?_
    refine then_n ?_
    refine wp_seq ?_
    refine region_plain (n := 9) [(0, .p), (1, .l), (2, .p), (3, .l), (4, .p), (5, .l), (6, .p), (7, .p), (8, .p)] rfl rfl ?_
    refine Run.move rfl E rfl rfl rfl ?_; clear E a; intro a E
    refine Run.call (args := [.pointer (some ⟨b2, 0, none⟩), .int .i64 99]) rfl rfl E rfl rfl Try.func82 nm82 rfl rfl (fnumber_walk (at_ := 4) (e := 0) (most := 99) (St.ownL (A := [.obj b2 120 [.slice A0 b.length c0, .int .i64 4, .bool (decide ((0 : Nat) ≠ 0))]]) (R := []) S) (H1.bel S.belT) hb8 hl hAr (by decide) (by decide)) ?_; rintro e_ w ⟨rfl, S_⟩; refine ⟨_, rfl, (fun h => by cases h), ?_⟩; clear E a; intro a E
    replace S : St _ _ _ [_] := St.call (A := [.obj b2 120 [.slice A0 b.length c0, .int .i64 4, .bool (decide ((0 : Nat) ≠ 0))]]) (R := []) S S_; clear S_
    obtain ⟨a1_, e1_, v1_, h1_⟩ : ∃ (x : Int) (y : Nat) (z : Int), numR b 4 0 99 = (x, y, z) := ⟨_, _, _, rfl⟩
    rw [h1_] at E S
    dsimp only at E S
    replace S : St _ _ _ [.obj b2 120 [.slice A0 b.length c0, .int .i64 a1_, .bool (decide (e1_ ≠ 0))]] := S
    have hv1 := numR_ge b 4 0 99 (by decide); rw [h1_] at hv1; dsimp only at hv1
    refine Run.move rfl E rfl rfl rfl ?_; clear E a; intro a E
    refine Run.call (args := [.pointer (some ⟨b2, 0, none⟩), .int .i64 1024]) rfl rfl E rfl rfl Try.func82 nm82 rfl rfl (fnumber_walk (at_ := a1_) (e := e1_) (most := 1024) (St.ownL (A := [.obj b2 120 [.slice A0 b.length c0, .int .i64 a1_, .bool (decide (e1_ ≠ 0))]]) (R := []) S) (H1.bel S.belT) hb8 hl hAr (by decide) (by decide)) ?_; rintro e_ w ⟨rfl, S_⟩; refine ⟨_, rfl, (fun h => by cases h), ?_⟩; clear E a; intro a E
    replace S : St _ _ _ [_] := St.call (A := [.obj b2 120 [.slice A0 b.length c0, .int .i64 a1_, .bool (decide (e1_ ≠ 0))]]) (R := []) S S_; clear S_
    obtain ⟨a2_, e2_, v2_, h2_⟩ : ∃ (x : Int) (y : Nat) (z : Int), numR b a1_ e1_ 1024 = (x, y, z) := ⟨_, _, _, rfl⟩
    rw [h2_] at E S
    dsimp only at E S
    replace S : St _ _ _ [.obj b2 120 [.slice A0 b.length c0, .int .i64 a2_, .bool (decide (e2_ ≠ 0))]] := S
    have hv2 := numR_ge b a1_ e1_ 1024 (by decide); rw [h2_] at hv2; dsimp only at hv2
    refine Run.move rfl E rfl rfl rfl ?_; clear E a; intro a E
    refine Run.call (args := [.pointer (some ⟨b2, 0, none⟩), .int .i64 16777216]) rfl rfl E rfl rfl Try.func82 nm82 rfl rfl (fnumber_walk (at_ := a2_) (e := e2_) (most := 16777216) (St.ownL (A := [.obj b2 120 [.slice A0 b.length c0, .int .i64 a2_, .bool (decide (e2_ ≠ 0))]]) (R := []) S) (H1.bel S.belT) hb8 hl hAr (by decide) (by decide)) ?_; rintro e_ w ⟨rfl, S_⟩; refine ⟨_, rfl, (fun h => by cases h), ?_⟩; clear E a; intro a E
    replace S : St _ _ _ [_] := St.call (A := [.obj b2 120 [.slice A0 b.length c0, .int .i64 a2_, .bool (decide (e2_ ≠ 0))]]) (R := []) S S_; clear S_
    obtain ⟨a3_, e3_, v3_, h3_⟩ : ∃ (x : Int) (y : Nat) (z : Int), numR b a2_ e2_ 16777216 = (x, y, z) := ⟨_, _, _, rfl⟩
    rw [h3_] at E S
    dsimp only at E S
    replace S : St _ _ _ [.obj b2 120 [.slice A0 b.length c0, .int .i64 a3_, .bool (decide (e3_ ≠ 0))]] := S
    have hv3 := numR_ge b a2_ e2_ 16777216 (by decide); rw [h3_] at hv3; dsimp only at hv3
    refine Run.assign rfl E rfl rfl rfl ?_; clear E a; intro a E
    refine Run.assign rfl E rfl rfl rfl ?_; clear E a; intro a E
    refine Run.assign rfl E rfl rfl rfl ?_; clear E a; intro a E
    refine Run.nil ?_
    refine then_n ?_
    refine wp_seq ?_
    refine wp_seq ?_
    refine region_plain (n := 4) [(0, .p), (1, .p), (2, .p), (3, .l)] rfl rfl ?_
    refine Run.move rfl E rfl rfl rfl ?_; clear E a; intro a E
    refine Run.nilCheck rfl E rfl rfl rfl ?_; clear E a; intro a E
    refine Run.fieldAddr rfl E rfl rfl rfl fo120_2 (rfl) ?_; clear E a; intro a E
    refine Run.load1 rfl rfl E S rfl rfl rfl one4 (fun _ s => s.objCell 0 2 rfl rfl) ?_; clear E a; intro a E
    by_cases he3 : e3_ ≠ 0
    · skip
      replace E := E.setb 28 rfl (decide_eq_true he3)
      refine Run.nil ?_
      refine then_n ?_
      refine cond_T E rfl ?_
      refine wp_seq ?_
      refine region_plain (n := 2) [(0, .p), (1, .p)] rfl rfl ?_
      refine Run.assign rfl E rfl rfl rfl ?_; clear E a; intro a E
      refine Run.assign rfl E rfl rfl rfl ?_; clear E a; intro a E
      refine Run.nil ?_
      refine then_n ?_
      refine wp_ret ?_
      refine then_r ?_
      exact ret2 E Try.results23 rfl rfl (.inl ⟨by rw [opnF_eq hp h1_ h2_ h3_, if_neg (fun h => he3 h.1)], rfl, S.belT⟩)
    · skip
      obtain rfl : e3_ = 0 := by omega
      replace E := E.setb 28 rfl (show decide ((0 : Nat) ≠ 0) = false from rfl)
      replace S : St _ _ _ [.obj b2 120 [.slice A0 b.length c0, .int .i64 a3_, .bool false]] := S
      obtain ⟨k0, rfl, hk0⟩ := open_pos hb8 h4 h1_ h2_ h3_
      refine Run.nil ?_
      refine then_n ?_
      refine cond_F E rfl ?_
      refine wp_skip ?_
      refine then_n ?_
      refine wp_seq ?_
      refine region_plain (n := 8) [(0, .p), (1, .p), (2, .e), (3, .p), (4, .p), (5, .p), (6, .p), (7, .p)] rfl rfl ?_
      refine Run.move rfl E rfl rfl rfl ?_; clear E a; intro a E
      refine Run.move rfl E rfl rfl rfl ?_; clear E a; intro a E
      by_cases hev : 1 ≤ v2_
      · skip
        obtain ⟨G, hxG⟩ : ∃ x : Nat, (x : Int) = v1_ := ⟨v1_.toNat, by omega⟩
        subst hxG
        obtain ⟨ev, hxev⟩ : ∃ x : Nat, (x : Int) = v2_ := ⟨v2_.toNat, by omega⟩
        subst hxev
        obtain ⟨M, hxM⟩ : ∃ x : Nat, (x : Int) = v3_ := ⟨v3_.toNat, by omega⟩
        subst hxM
        have hopn := opnF_eq hp h1_ h2_ h3_; rw [if_pos ⟨rfl, hev⟩] at hopn; simp only [Int.toNat_natCast] at hopn
        refine Run.call (args := [.int .i64 (G : Int), .int .i64 (ev : Int), .int .i64 16777216]) rfl rfl E rfl rfl Try.func73 nm73 rfl rfl (tape_new (G := G) (ev := ev) (lim := 16777216) (by omega) (by omega) (by omega) (by decide) (by decide)) ?_; rintro e_ w ⟨g, rfl, S_⟩; refine ⟨_, rfl, (fun _ => S_.belT), ?_⟩; clear E a; intro a E
        replace S : St _ _ _ [.obj _ _ [_, _, _, _, _, _, _, _, _, _, _, _, _], _, _, _, .obj _ _ [_, _, _]] := St.call (A := []) (R := [_]) S S_; clear S_
        refine Run.move rfl E rfl rfl rfl ?_; clear E a; intro a E
        refine Run.extract rfl E rfl rfl rfl rfl ?_; clear E a; intro a E
        refine Run.extract rfl E rfl rfl rfl rfl ?_; clear E a; intro a E
        refine Run.assign rfl E rfl rfl rfl ?_; clear E a; intro a E
        refine Run.assign rfl E rfl rfl rfl ?_; clear E a; intro a E
        refine Run.nil ?_
        refine then_n ?_
        refine wp_seq ?_
        refine wp_seq ?_
        refine region_plain (n := 2) [(0, .p), (1, .p)] rfl rfl ?_
        refine Run.move rfl E rfl rfl rfl ?_; clear E a; intro a E
        refine Run.nei rfl E rfl rfl rfl rfl (b := false) (by decide) ?_; clear E a; intro a E
        refine Run.nil ?_
        refine then_n ?_
        refine cond_F E rfl ?_
        refine wp_skip ?_
        refine then_n ?_
        refine wp_seq ?_
        refine region_plain (n := 1) [(0, .e)] rfl rfl ?_
        refine Run.alloc rfl rfl E S rfl rfl z34 rfl ?_; clear E a S; intro b3 w a E S B_; clear B_
        refine Run.nil ?_
        refine then_n ?_
        refine wp_seq ?_
        refine wp_seq ?_
        refine region_plain (n := 2) [(0, .p), (1, .p)] rfl rfl ?_
        refine Run.move rfl E rfl rfl rfl ?_; clear E a; intro a E
        refine Run.move rfl E rfl rfl rfl ?_; clear E a; intro a E
        refine Run.nil ?_
        refine then_n ?_
        refine wp_block ?_
        replace S := S.addNil 3 1
        have S : St _ _ _ [_, _, _, _, _, _, _] := S.sel [6, 2, 3, 4, 5, 1, 0] _ rfl rfl
        refine wp_loop_ghost (fun n_ a w => ∃ i : Nat, ∃ A : Option Addr, ∃ c : Nat, ∃ B : Option Addr, ∃ d : Nat, ∃ C : Option Addr, ∃ e : Nat, ∃ ts : List Sta, ∃ k : Nat, ∃ u : Sta, ∃ U : Option Addr, ∃ q : Nat, M - i = n_ ∧ Env 57 [(0, .slice A0 b.length c0), (4, .pointer (some ⟨b2, 0, none⟩)), (8, .pointer (some ⟨g, 0, none⟩)), (10, .pointer (some ⟨b3, 0, none⟩)), (37, .int .i64 (M : Int)), (38, .int .i64 (i : Int))] a ∧ St _ _ w [.obj b2 120 [.slice A0 b.length c0, .int .i64 (k : Int), .bool false], .obj g 128 [.int .i64 (G : Int), .int .i64 (ev : Int), .int .i64 16777216, .slice A ((tbytes G ev ts).length) c, .slice B ((tstarts G ev ts).length) d, .int .i64 ((lastS ts).kind), .int .i64 ((lastS ts).node), .int .i64 ((lastS ts).phase), .int .i64 ((lastS ts).pos), .int .i64 ((lastS ts).start), .int .i64 ((lastS ts).depth), .int .i64 ((lastS ts).org), .slice C ((lastS ts).caps.length) e], .row (.slice A ((tbytes G ev ts).length) c) 5 1 ((tbytes G ev ts).length) (u8s (tbytes G ev ts)), .row (.slice B ((tstarts G ev ts).length) d) 3 1 ((tstarts G ev ts).length) (ints (tstarts G ev ts)), .row (.slice C ((lastS ts).caps.length) e) 3 1 ((lastS ts).caps.length) (ints (lastS ts).caps), .obj b3 34 [.int .i64 u.kind, .int .i64 u.node, .int .i64 u.phase, .int .i64 u.pos, .int .i64 u.start, .int .i64 u.depth, .int .i64 u.org, .slice U u.caps.length q], .row (.slice U u.caps.length q) 3 1 u.caps.length (ints u.caps)] ∧ (i ≤ M) ∧ (opS G ev 16777216 b M (k0 : Int) [] = opS G ev 16777216 b (M - i) (k : Int) ts) ∧ (TapeOK G ev ts) ∧ (((tbytes G ev ts).length : Int) ≤ 16777216) ∧ (k ≤ b.length) ∧ (ts.length % ev = 0 ∨ u = prevS G ev ts ts.length)) _ ⟨0, none, 0, none, 0, none, 0, [], k0, Sta.zero, none, 0, rfl, E.keeps [(0, _), (4, _), (8, _), (10, _), (37, _), (38, _)] ⟨rfl, rfl, rfl, rfl, rfl, rfl, trivial⟩, S, Nat.zero_le _, rfl, (TapeOK.nil (by omega) (by omega) (by omega)), (by show ((0 : Nat) : Int) ≤ 16777216; decide), hk0, (.inl (Nat.zero_mod _))⟩ ?_
        clear E a S
        rintro n_ a w ⟨i, A, c, B, d, C, e, ts, k, u, U, q, rfl, E, S, hi, hop, hok, hlim, hkl, hu⟩
        refine wp_seq ?_
        refine region_plain (n := 1) [(0, .p)] rfl rfl ?_
        by_cases hlt : i < M
        · skip
          refine Run.lss rfl E rfl rfl rfl rfl (decide_eq_true (by omega)) ?_; clear E a; intro a E
          refine Run.nil ?_
          refine then_n ?_
          refine wp_seq ?_
          refine cond_T E rfl ?_
          refine wp_skip ?_
          refine then_n ?_
          refine wp_seq ?_
          refine wp_block ?_
          refine wp_seq ?_
          refine region_plain (n := 5) [(0, .p), (1, .p), (2, .l), (3, .l), (4, .l)] rfl rfl ?_
          refine Run.move rfl E rfl rfl rfl ?_; clear E a; intro a E
          refine Run.move rfl E rfl rfl rfl ?_; clear E a; intro a E
          refine Run.loadN (cs := [.int .i64 u.kind, .int .i64 u.node, .int .i64 u.phase, .int .i64 u.pos, .int .i64 u.start, .int .i64 u.depth, .int .i64 u.org, .slice U u.caps.length q]) rfl rfl E S rfl rfl rfl ag34 rfl (fun _ s => objAll s 5 rfl) ?_; clear E a; intro a E
          obtain ⟨pv, hpv⟩ : ∃ pv, pv = prevS G ev ts ts.length := ⟨_, rfl⟩
          obtain ⟨a', er, t, hr⟩ : ∃ x y z, rdF pv b (k : Int) = (x, y, z) := ⟨_, _, _, rfl⟩
          obtain ⟨p1, p2, p3⟩ := hok.prev (Nat.le_refl ts.length)
          rw [← hpv] at p1 p2 p3
          have hr2 := hr; rw [hpv] at hr2
          by_cases hm : ts.length % ev = 0
          · skip
            by_cases he : er ≠ 0
            · skip
              have hAw : 0 < b.length → ∀ b_ o, A0 = some ⟨b_, o, none⟩ → b_ ∉ fps [.obj b2 120 [.slice A0 b.length c0, .int .i64 (k : Int), .bool false], .obj g 128 [.int .i64 (G : Int), .int .i64 (ev : Int), .int .i64 16777216, .slice A ((tbytes G ev ts).length) c, .slice B ((tstarts G ev ts).length) d, .int .i64 ((lastS ts).kind), .int .i64 ((lastS ts).node), .int .i64 ((lastS ts).phase), .int .i64 ((lastS ts).pos), .int .i64 ((lastS ts).start), .int .i64 ((lastS ts).depth), .int .i64 ((lastS ts).org), .slice C ((lastS ts).caps.length) e], .row (.slice A ((tbytes G ev ts).length) c) 5 1 ((tbytes G ev ts).length) (u8s (tbytes G ev ts)), .row (.slice B ((tstarts G ev ts).length) d) 3 1 ((tstarts G ev ts).length) (ints (tstarts G ev ts)), .row (.slice C ((lastS ts).caps.length) e) 3 1 ((lastS ts).caps.length) (ints (lastS ts).caps)] := fun h_ b_ o_ e_ m_ => absurd (St.newL (A := [.obj b2 120 [.slice A0 b.length c0, .int .i64 (k : Int), .bool false], .obj g 128 [.int .i64 (G : Int), .int .i64 (ev : Int), .int .i64 16777216, .slice A ((tbytes G ev ts).length) c, .slice B ((tstarts G ev ts).length) d, .int .i64 ((lastS ts).kind), .int .i64 ((lastS ts).node), .int .i64 ((lastS ts).phase), .int .i64 ((lastS ts).pos), .int .i64 ((lastS ts).start), .int .i64 ((lastS ts).depth), .int .i64 ((lastS ts).org), .slice C ((lastS ts).caps.length) e], .row (.slice A ((tbytes G ev ts).length) c) 5 1 ((tbytes G ev ts).length) (u8s (tbytes G ev ts)), .row (.slice B ((tstarts G ev ts).length) d) 3 1 ((tstarts G ev ts).length) (ints (tstarts G ev ts)), .row (.slice C ((lastS ts).caps.length) e) 3 1 ((lastS ts).caps.length) (ints (lastS ts).caps)]) (R := [_, _]) S m_) (Nat.not_le.2 (H1.lt h_ (by decide) e_))
              refine Run.call (args := [.pointer (some ⟨b2, 0, none⟩), .pointer (some ⟨g, 0, none⟩), .agg #[.int .i64 u.kind, .int .i64 u.node, .int .i64 u.phase, .int .i64 u.pos, .int .i64 u.start, .int .i64 u.depth, .int .i64 u.org, .slice U u.caps.length q]]) rfl rfl E rfl rfl Try.func83 nm83 rfl rfl (frec_err_b (St.ownL (A := [.obj b2 120 [.slice A0 b.length c0, .int .i64 (k : Int), .bool false], .obj g 128 [.int .i64 (G : Int), .int .i64 (ev : Int), .int .i64 16777216, .slice A ((tbytes G ev ts).length) c, .slice B ((tstarts G ev ts).length) d, .int .i64 ((lastS ts).kind), .int .i64 ((lastS ts).node), .int .i64 ((lastS ts).phase), .int .i64 ((lastS ts).pos), .int .i64 ((lastS ts).start), .int .i64 ((lastS ts).depth), .int .i64 ((lastS ts).org), .slice C ((lastS ts).caps.length) e], .row (.slice A ((tbytes G ev ts).length) c) 5 1 ((tbytes G ev ts).length) (u8s (tbytes G ev ts)), .row (.slice B ((tstarts G ev ts).length) d) 3 1 ((tstarts G ev ts).length) (ints (tstarts G ev ts)), .row (.slice C ((lastS ts).caps.length) e) 3 1 ((lastS ts).caps.length) (ints (lastS ts).caps)]) (R := [_, _]) S) (H1.bel S.belT) hb8 hl hAw hok hlim (by decide) hkl hpv hm hr he) ?_; rintro e_ w ⟨rfl, S_⟩; refine ⟨_, rfl, (fun h => by cases h), ?_⟩; clear E a; intro a E
              replace S : St _ _ _ [.obj _ _ [_, _, _], .obj _ _ [_, _, _, _, _, _, _, _, _, _, _, _, _], _, _, _, .obj _ _ [_, _, _, _, _, _, _, _], _] := St.call (A := [.obj b2 120 [.slice A0 b.length c0, .int .i64 (k : Int), .bool false], .obj g 128 [.int .i64 (G : Int), .int .i64 (ev : Int), .int .i64 16777216, .slice A ((tbytes G ev ts).length) c, .slice B ((tstarts G ev ts).length) d, .int .i64 ((lastS ts).kind), .int .i64 ((lastS ts).node), .int .i64 ((lastS ts).phase), .int .i64 ((lastS ts).pos), .int .i64 ((lastS ts).start), .int .i64 ((lastS ts).depth), .int .i64 ((lastS ts).org), .slice C ((lastS ts).caps.length) e], .row (.slice A ((tbytes G ev ts).length) c) 5 1 ((tbytes G ev ts).length) (u8s (tbytes G ev ts)), .row (.slice B ((tstarts G ev ts).length) d) 3 1 ((tstarts G ev ts).length) (ints (tstarts G ev ts)), .row (.slice C ((lastS ts).caps.length) e) 3 1 ((lastS ts).caps.length) (ints (lastS ts).caps)]) (R := [_, _]) S S_; clear S_ hAw
              refine Run.store (news := [.int .i64 0, .int .i64 0, .int .i64 0, .int .i64 0, .int .i64 0, .int .i64 0, .int .i64 0, .slice none 0 0]) (cs' := [_, _, _, _, _, _, _, _]) (hp' := [_, _, _, _, _, _, _]) 5 rfl E S rfl rfl rfl rfl rfl sz34 rfl rfl rfl rfl ?_; clear S; intro w S
              refine Run.nil ?_
              refine then_n ?_
              refine wp_seq ?_
              refine region_plain (n := 4) [(0, .p), (1, .p), (2, .p), (3, .l)] rfl rfl ?_
              refine Run.move rfl E rfl rfl rfl ?_; clear E a; intro a E
              refine Run.nilCheck rfl E rfl rfl rfl ?_; clear E a; intro a E
              refine Run.fieldAddr rfl E rfl rfl rfl fo120_2 (rfl) ?_; clear E a; intro a E
              refine Run.load1 rfl rfl E S rfl rfl rfl one4 (fun _ s => s.objCell 0 2 rfl rfl) ?_; clear E a; intro a E
              refine Run.nil ?_
              refine then_n ?_
              refine cond_T E rfl ?_
              refine wp_seq ?_
              refine region_plain (n := 2) [(0, .p), (1, .p)] rfl rfl ?_
              refine Run.assign rfl E rfl rfl rfl ?_; clear E a; intro a E
              refine Run.assign rfl E rfl rfl rfl ?_; clear E a; intro a E
              refine Run.nil ?_
              refine then_n ?_
              refine wp_ret ?_
              refine blk_r ?_
              refine then_r ?_
              refine then_r ?_
              refine blk_r ?_
              refine then_r ?_
              exact ret2 E Try.results23 rfl rfl (.inl ⟨by rw [hopn, hop, show M - i = (M - (i + 1)) + 1 by omega, opS_stop hr2 (fun h => he h.1)], rfl, S.belT⟩)
            · skip
              by_cases hR : t.Right (G : Int)
              · skip
                obtain rfl : er = 0 := by omega
                obtain ⟨hst, ha'⟩ := rdF_bwd p1 hb8 hkl hr (by rw [p2]; exact hR)
                subst ha'
                have hAw : 0 < b.length → ∀ b_ o, A0 = some ⟨b_, o, none⟩ → b_ ∉ fps [.obj b2 120 [.slice A0 b.length c0, .int .i64 (k : Int), .bool false], .obj g 128 [.int .i64 (G : Int), .int .i64 (ev : Int), .int .i64 16777216, .slice A ((tbytes G ev ts).length) c, .slice B ((tstarts G ev ts).length) d, .int .i64 ((lastS ts).kind), .int .i64 ((lastS ts).node), .int .i64 ((lastS ts).phase), .int .i64 ((lastS ts).pos), .int .i64 ((lastS ts).start), .int .i64 ((lastS ts).depth), .int .i64 ((lastS ts).org), .slice C ((lastS ts).caps.length) e], .row (.slice A ((tbytes G ev ts).length) c) 5 1 ((tbytes G ev ts).length) (u8s (tbytes G ev ts)), .row (.slice B ((tstarts G ev ts).length) d) 3 1 ((tstarts G ev ts).length) (ints (tstarts G ev ts)), .row (.slice C ((lastS ts).caps.length) e) 3 1 ((lastS ts).caps.length) (ints (lastS ts).caps)] := fun h_ b_ o_ e_ m_ => absurd (St.newL (A := [.obj b2 120 [.slice A0 b.length c0, .int .i64 (k : Int), .bool false], .obj g 128 [.int .i64 (G : Int), .int .i64 (ev : Int), .int .i64 16777216, .slice A ((tbytes G ev ts).length) c, .slice B ((tstarts G ev ts).length) d, .int .i64 ((lastS ts).kind), .int .i64 ((lastS ts).node), .int .i64 ((lastS ts).phase), .int .i64 ((lastS ts).pos), .int .i64 ((lastS ts).start), .int .i64 ((lastS ts).depth), .int .i64 ((lastS ts).org), .slice C ((lastS ts).caps.length) e], .row (.slice A ((tbytes G ev ts).length) c) 5 1 ((tbytes G ev ts).length) (u8s (tbytes G ev ts)), .row (.slice B ((tstarts G ev ts).length) d) 3 1 ((tstarts G ev ts).length) (ints (tstarts G ev ts)), .row (.slice C ((lastS ts).caps.length) e) 3 1 ((lastS ts).caps.length) (ints (lastS ts).caps)]) (R := [_, _]) S m_) (Nat.not_le.2 (H1.lt h_ (by decide) e_))
                refine Run.call (args := [.pointer (some ⟨b2, 0, none⟩), .pointer (some ⟨g, 0, none⟩), .agg #[.int .i64 u.kind, .int .i64 u.node, .int .i64 u.phase, .int .i64 u.pos, .int .i64 u.start, .int .i64 u.depth, .int .i64 u.org, .slice U u.caps.length q]]) rfl rfl E rfl rfl Try.func83 nm83 rfl rfl (frec_ok_b (St.ownL (A := [.obj b2 120 [.slice A0 b.length c0, .int .i64 (k : Int), .bool false], .obj g 128 [.int .i64 (G : Int), .int .i64 (ev : Int), .int .i64 16777216, .slice A ((tbytes G ev ts).length) c, .slice B ((tstarts G ev ts).length) d, .int .i64 ((lastS ts).kind), .int .i64 ((lastS ts).node), .int .i64 ((lastS ts).phase), .int .i64 ((lastS ts).pos), .int .i64 ((lastS ts).start), .int .i64 ((lastS ts).depth), .int .i64 ((lastS ts).org), .slice C ((lastS ts).caps.length) e], .row (.slice A ((tbytes G ev ts).length) c) 5 1 ((tbytes G ev ts).length) (u8s (tbytes G ev ts)), .row (.slice B ((tstarts G ev ts).length) d) 3 1 ((tstarts G ev ts).length) (ints (tstarts G ev ts)), .row (.slice C ((lastS ts).caps.length) e) 3 1 ((lastS ts).caps.length) (ints (lastS ts).caps)]) (R := [_, _]) S) (H1.bel S.belT) hb8 hl hAw hok hlim (by decide) hkl hpv hm hr (hst.len hkl) hR) ?_; rintro e_ w ⟨D10, e11, Ax4, cx5, Bx6, dx7, Cx8, ex9, rfl, S_⟩; refine ⟨_, rfl, (fun h => by cases h), ?_⟩; clear E a; intro a E
                replace S : St _ _ _ [.obj _ _ [_, _, _], .obj _ _ [_, _, _, _, _, _, _, _, _, _, _, _, _], _, _, _, _, .obj _ _ [_, _, _, _, _, _, _, _], _] := St.call (A := [.obj b2 120 [.slice A0 b.length c0, .int .i64 (k : Int), .bool false], .obj g 128 [.int .i64 (G : Int), .int .i64 (ev : Int), .int .i64 16777216, .slice A ((tbytes G ev ts).length) c, .slice B ((tstarts G ev ts).length) d, .int .i64 ((lastS ts).kind), .int .i64 ((lastS ts).node), .int .i64 ((lastS ts).phase), .int .i64 ((lastS ts).pos), .int .i64 ((lastS ts).start), .int .i64 ((lastS ts).depth), .int .i64 ((lastS ts).org), .slice C ((lastS ts).caps.length) e], .row (.slice A ((tbytes G ev ts).length) c) 5 1 ((tbytes G ev ts).length) (u8s (tbytes G ev ts)), .row (.slice B ((tstarts G ev ts).length) d) 3 1 ((tstarts G ev ts).length) (ints (tstarts G ev ts)), .row (.slice C ((lastS ts).caps.length) e) 3 1 ((lastS ts).caps.length) (ints (lastS ts).caps)]) (R := [_, _]) S S_; clear S_ hAw
                refine Run.store (news := [.int .i64 t.kind, .int .i64 t.node, .int .i64 t.phase, .int .i64 t.pos, .int .i64 t.start, .int .i64 t.depth, .int .i64 t.org, .slice D10 t.caps.length e11]) (cs' := [_, _, _, _, _, _, _, _]) (hp' := [_, _, _, _, _, _, _, _]) 6 rfl E S rfl rfl rfl rfl rfl sz34 rfl rfl rfl rfl ?_; clear S; intro w S
                refine Run.nil ?_
                refine then_n ?_
                refine wp_seq ?_
                refine region_plain (n := 4) [(0, .p), (1, .p), (2, .p), (3, .l)] rfl rfl ?_
                refine Run.move rfl E rfl rfl rfl ?_; clear E a; intro a E
                refine Run.nilCheck rfl E rfl rfl rfl ?_; clear E a; intro a E
                refine Run.fieldAddr rfl E rfl rfl rfl fo120_2 (rfl) ?_; clear E a; intro a E
                refine Run.load1 rfl rfl E S rfl rfl rfl one4 (fun _ s => s.objCell 0 2 rfl rfl) ?_; clear E a; intro a E
                rcases addE_zero (G := G) (ev := ev) (lim := 16777216) (ts := ts) (s := t) with ⟨hE, hT⟩ | ⟨hE, hT⟩
                · skip
                  replace E := E.setb 47 rfl (decide_eq_false (fun h => h hE))
                  obtain ⟨_, hl3⟩ := addE_ok hE
                  have hl2 := hl3; rw [← hpv] at hl2
                  rw [hT] at S
                  rw [show decide (addE G ev 16777216 ts t ≠ 0) = false from decide_eq_false (fun h => h hE)] at S
                  refine Run.nil ?_
                  refine then_n ?_
                  refine cond_F E rfl ?_
                  refine wp_skip ?_
                  refine blk_n ?_
                  refine then_n ?_
                  refine region_plain (n := 2) [(0, .p), (1, .p)] rfl rfl ?_
                  refine Run.add rfl E rfl rfl rfl rfl (i64_ok (by omega)) ?_; clear E a; intro a E
                  refine Run.move rfl E rfl rfl rfl ?_; clear E a; intro a E
                  refine Run.nil ?_
                  refine then_n ?_
                  replace E := E.setv 38 rfl (show Value.int .i64 ((i : Int) + 1) = .int .i64 ((i + 1 : Nat) : Int) from rfl)
                  have S : St _ _ _ [_, _, _, _, _, _, _, _] := S.sel [7, 0, 1, 2, 3, 4, 6, 5] _ rfl rfl
                  have S := S.drop1
                  exact ⟨_, (by omega), (i + 1), Ax4, cx5, Bx6, dx7, Cx8, ex9, (ts ++ [t]), (k + (rec18 pv t).length), t, D10, e11, rfl, E.keeps [(0, _), (4, _), (8, _), (10, _), (37, _), (38, _)] ⟨rfl, rfl, rfl, rfl, rfl, rfl, trivial⟩, S, (by omega), (by rw [hop, show M - i = (M - (i + 1)) + 1 by omega, opS_go hr2 hR hl3]), (hok.snoc hR), (by rw [tbytes_snoc, ← hpv]; exact hl2), (hst.len hkl), (wa_step ts t)⟩
                · skip
                  replace E := E.setb 47 rfl (decide_eq_true hE)
                  refine Run.nil ?_
                  refine then_n ?_
                  refine cond_T E rfl ?_
                  refine wp_seq ?_
                  refine region_plain (n := 2) [(0, .p), (1, .p)] rfl rfl ?_
                  refine Run.assign rfl E rfl rfl rfl ?_; clear E a; intro a E
                  refine Run.assign rfl E rfl rfl rfl ?_; clear E a; intro a E
                  refine Run.nil ?_
                  refine then_n ?_
                  refine wp_ret ?_
                  refine blk_r ?_
                  refine then_r ?_
                  refine then_r ?_
                  refine blk_r ?_
                  refine then_r ?_
                  exact ret2 E Try.results23 rfl rfl (.inl ⟨by rw [hopn, hop, show M - i = (M - (i + 1)) + 1 by omega, opS_stop hr2 (fun h => hE (by unfold addE; rw [if_pos h.2.1, if_pos h.2.2]))], rfl, S.belT⟩)
              · skip
                obtain rfl : er = 0 := by omega
                have hAw : 0 < b.length → ∀ b_ o, A0 = some ⟨b_, o, none⟩ → b_ ∉ fps [.obj b2 120 [.slice A0 b.length c0, .int .i64 (k : Int), .bool false], .obj g 128 [.int .i64 (G : Int), .int .i64 (ev : Int), .int .i64 16777216, .slice A ((tbytes G ev ts).length) c, .slice B ((tstarts G ev ts).length) d, .int .i64 ((lastS ts).kind), .int .i64 ((lastS ts).node), .int .i64 ((lastS ts).phase), .int .i64 ((lastS ts).pos), .int .i64 ((lastS ts).start), .int .i64 ((lastS ts).depth), .int .i64 ((lastS ts).org), .slice C ((lastS ts).caps.length) e], .row (.slice A ((tbytes G ev ts).length) c) 5 1 ((tbytes G ev ts).length) (u8s (tbytes G ev ts)), .row (.slice B ((tstarts G ev ts).length) d) 3 1 ((tstarts G ev ts).length) (ints (tstarts G ev ts)), .row (.slice C ((lastS ts).caps.length) e) 3 1 ((lastS ts).caps.length) (ints (lastS ts).caps)] := fun h_ b_ o_ e_ m_ => absurd (St.newL (A := [.obj b2 120 [.slice A0 b.length c0, .int .i64 (k : Int), .bool false], .obj g 128 [.int .i64 (G : Int), .int .i64 (ev : Int), .int .i64 16777216, .slice A ((tbytes G ev ts).length) c, .slice B ((tstarts G ev ts).length) d, .int .i64 ((lastS ts).kind), .int .i64 ((lastS ts).node), .int .i64 ((lastS ts).phase), .int .i64 ((lastS ts).pos), .int .i64 ((lastS ts).start), .int .i64 ((lastS ts).depth), .int .i64 ((lastS ts).org), .slice C ((lastS ts).caps.length) e], .row (.slice A ((tbytes G ev ts).length) c) 5 1 ((tbytes G ev ts).length) (u8s (tbytes G ev ts)), .row (.slice B ((tstarts G ev ts).length) d) 3 1 ((tstarts G ev ts).length) (ints (tstarts G ev ts)), .row (.slice C ((lastS ts).caps.length) e) 3 1 ((lastS ts).caps.length) (ints (lastS ts).caps)]) (R := [_, _]) S m_) (Nat.not_le.2 (H1.lt h_ (by decide) e_))
                refine Run.call (args := [.pointer (some ⟨b2, 0, none⟩), .pointer (some ⟨g, 0, none⟩), .agg #[.int .i64 u.kind, .int .i64 u.node, .int .i64 u.phase, .int .i64 u.pos, .int .i64 u.start, .int .i64 u.depth, .int .i64 u.org, .slice U u.caps.length q]]) rfl rfl E rfl rfl Try.func83 nm83 rfl rfl (frec_nor_b (St.ownL (A := [.obj b2 120 [.slice A0 b.length c0, .int .i64 (k : Int), .bool false], .obj g 128 [.int .i64 (G : Int), .int .i64 (ev : Int), .int .i64 16777216, .slice A ((tbytes G ev ts).length) c, .slice B ((tstarts G ev ts).length) d, .int .i64 ((lastS ts).kind), .int .i64 ((lastS ts).node), .int .i64 ((lastS ts).phase), .int .i64 ((lastS ts).pos), .int .i64 ((lastS ts).start), .int .i64 ((lastS ts).depth), .int .i64 ((lastS ts).org), .slice C ((lastS ts).caps.length) e], .row (.slice A ((tbytes G ev ts).length) c) 5 1 ((tbytes G ev ts).length) (u8s (tbytes G ev ts)), .row (.slice B ((tstarts G ev ts).length) d) 3 1 ((tstarts G ev ts).length) (ints (tstarts G ev ts)), .row (.slice C ((lastS ts).caps.length) e) 3 1 ((lastS ts).caps.length) (ints (lastS ts).caps)]) (R := [_, _]) S) (H1.bel S.belT) hb8 hl hAw hok hlim (by decide) hkl hpv hm hr hR) ?_; rintro e_ w ⟨rfl, S_⟩; refine ⟨_, rfl, (fun h => by cases h), ?_⟩; clear E a; intro a E
                replace S : St _ _ _ [.obj _ _ [_, _, _], .obj _ _ [_, _, _, _, _, _, _, _, _, _, _, _, _], _, _, _, .obj _ _ [_, _, _, _, _, _, _, _], _] := St.call (A := [.obj b2 120 [.slice A0 b.length c0, .int .i64 (k : Int), .bool false], .obj g 128 [.int .i64 (G : Int), .int .i64 (ev : Int), .int .i64 16777216, .slice A ((tbytes G ev ts).length) c, .slice B ((tstarts G ev ts).length) d, .int .i64 ((lastS ts).kind), .int .i64 ((lastS ts).node), .int .i64 ((lastS ts).phase), .int .i64 ((lastS ts).pos), .int .i64 ((lastS ts).start), .int .i64 ((lastS ts).depth), .int .i64 ((lastS ts).org), .slice C ((lastS ts).caps.length) e], .row (.slice A ((tbytes G ev ts).length) c) 5 1 ((tbytes G ev ts).length) (u8s (tbytes G ev ts)), .row (.slice B ((tstarts G ev ts).length) d) 3 1 ((tstarts G ev ts).length) (ints (tstarts G ev ts)), .row (.slice C ((lastS ts).caps.length) e) 3 1 ((lastS ts).caps.length) (ints (lastS ts).caps)]) (R := [_, _]) S S_; clear S_ hAw
                refine Run.store (news := [.int .i64 0, .int .i64 0, .int .i64 0, .int .i64 0, .int .i64 0, .int .i64 0, .int .i64 0, .slice none 0 0]) (cs' := [_, _, _, _, _, _, _, _]) (hp' := [_, _, _, _, _, _, _]) 5 rfl E S rfl rfl rfl rfl rfl sz34 rfl rfl rfl rfl ?_; clear S; intro w S
                refine Run.nil ?_
                refine then_n ?_
                refine wp_seq ?_
                refine region_plain (n := 4) [(0, .p), (1, .p), (2, .p), (3, .l)] rfl rfl ?_
                refine Run.move rfl E rfl rfl rfl ?_; clear E a; intro a E
                refine Run.nilCheck rfl E rfl rfl rfl ?_; clear E a; intro a E
                refine Run.fieldAddr rfl E rfl rfl rfl fo120_2 (rfl) ?_; clear E a; intro a E
                refine Run.load1 rfl rfl E S rfl rfl rfl one4 (fun _ s => s.objCell 0 2 rfl rfl) ?_; clear E a; intro a E
                refine Run.nil ?_
                refine then_n ?_
                refine cond_T E rfl ?_
                refine wp_seq ?_
                refine region_plain (n := 2) [(0, .p), (1, .p)] rfl rfl ?_
                refine Run.assign rfl E rfl rfl rfl ?_; clear E a; intro a E
                refine Run.assign rfl E rfl rfl rfl ?_; clear E a; intro a E
                refine Run.nil ?_
                refine then_n ?_
                refine wp_ret ?_
                refine blk_r ?_
                refine then_r ?_
                refine then_r ?_
                refine blk_r ?_
                refine then_r ?_
                exact ret2 E Try.results23 rfl rfl (.inl ⟨by rw [hopn, hop, show M - i = (M - (i + 1)) + 1 by omega, opS_stop hr2 (fun h => hR h.2.1)], rfl, S.belT⟩)
          · skip
            have hup : u = pv := by rw [hpv]; exact hu.resolve_left hm
            subst hup
            by_cases he : er ≠ 0
            · skip
              have hAw : 0 < b.length → ∀ b_ o, A0 = some ⟨b_, o, none⟩ → b_ ∉ fps [.obj b2 120 [.slice A0 b.length c0, .int .i64 (k : Int), .bool false], .obj g 128 [.int .i64 (G : Int), .int .i64 (ev : Int), .int .i64 16777216, .slice A ((tbytes G ev ts).length) c, .slice B ((tstarts G ev ts).length) d, .int .i64 ((lastS ts).kind), .int .i64 ((lastS ts).node), .int .i64 ((lastS ts).phase), .int .i64 ((lastS ts).pos), .int .i64 ((lastS ts).start), .int .i64 ((lastS ts).depth), .int .i64 ((lastS ts).org), .slice C ((lastS ts).caps.length) e], .row (.slice A ((tbytes G ev ts).length) c) 5 1 ((tbytes G ev ts).length) (u8s (tbytes G ev ts)), .row (.slice B ((tstarts G ev ts).length) d) 3 1 ((tstarts G ev ts).length) (ints (tstarts G ev ts)), .row (.slice C ((lastS ts).caps.length) e) 3 1 ((lastS ts).caps.length) (ints (lastS ts).caps)] := fun h_ b_ o_ e_ m_ => absurd (St.newL (A := [.obj b2 120 [.slice A0 b.length c0, .int .i64 (k : Int), .bool false], .obj g 128 [.int .i64 (G : Int), .int .i64 (ev : Int), .int .i64 16777216, .slice A ((tbytes G ev ts).length) c, .slice B ((tstarts G ev ts).length) d, .int .i64 ((lastS ts).kind), .int .i64 ((lastS ts).node), .int .i64 ((lastS ts).phase), .int .i64 ((lastS ts).pos), .int .i64 ((lastS ts).start), .int .i64 ((lastS ts).depth), .int .i64 ((lastS ts).org), .slice C ((lastS ts).caps.length) e], .row (.slice A ((tbytes G ev ts).length) c) 5 1 ((tbytes G ev ts).length) (u8s (tbytes G ev ts)), .row (.slice B ((tstarts G ev ts).length) d) 3 1 ((tstarts G ev ts).length) (ints (tstarts G ev ts)), .row (.slice C ((lastS ts).caps.length) e) 3 1 ((lastS ts).caps.length) (ints (lastS ts).caps)]) (R := [_, _]) S m_) (Nat.not_le.2 (H1.lt h_ (by decide) e_))
              refine Run.call (args := [.pointer (some ⟨b2, 0, none⟩), .pointer (some ⟨g, 0, none⟩), .agg #[.int .i64 u.kind, .int .i64 u.node, .int .i64 u.phase, .int .i64 u.pos, .int .i64 u.start, .int .i64 u.depth, .int .i64 u.org, .slice U u.caps.length q]]) rfl rfl E rfl rfl Try.func83 nm83 rfl rfl (frec_err_l (St.ownL (A := [.obj b2 120 [.slice A0 b.length c0, .int .i64 (k : Int), .bool false], .obj g 128 [.int .i64 (G : Int), .int .i64 (ev : Int), .int .i64 16777216, .slice A ((tbytes G ev ts).length) c, .slice B ((tstarts G ev ts).length) d, .int .i64 ((lastS ts).kind), .int .i64 ((lastS ts).node), .int .i64 ((lastS ts).phase), .int .i64 ((lastS ts).pos), .int .i64 ((lastS ts).start), .int .i64 ((lastS ts).depth), .int .i64 ((lastS ts).org), .slice C ((lastS ts).caps.length) e], .row (.slice A ((tbytes G ev ts).length) c) 5 1 ((tbytes G ev ts).length) (u8s (tbytes G ev ts)), .row (.slice B ((tstarts G ev ts).length) d) 3 1 ((tstarts G ev ts).length) (ints (tstarts G ev ts)), .row (.slice C ((lastS ts).caps.length) e) 3 1 ((lastS ts).caps.length) (ints (lastS ts).caps)]) (R := [_, _]) S) (H1.bel S.belT) hb8 hl hAw hok hlim (by decide) hkl (S.rd 6 rfl) (St.apartRow (A := [.obj b2 120 [.slice A0 b.length c0, .int .i64 (k : Int), .bool false], .obj g 128 [.int .i64 (G : Int), .int .i64 (ev : Int), .int .i64 16777216, .slice A ((tbytes G ev ts).length) c, .slice B ((tstarts G ev ts).length) d, .int .i64 ((lastS ts).kind), .int .i64 ((lastS ts).node), .int .i64 ((lastS ts).phase), .int .i64 ((lastS ts).pos), .int .i64 ((lastS ts).start), .int .i64 ((lastS ts).depth), .int .i64 ((lastS ts).org), .slice C ((lastS ts).caps.length) e], .row (.slice A ((tbytes G ev ts).length) c) 5 1 ((tbytes G ev ts).length) (u8s (tbytes G ev ts)), .row (.slice B ((tstarts G ev ts).length) d) 3 1 ((tstarts G ev ts).length) (ints (tstarts G ev ts)), .row (.slice C ((lastS ts).caps.length) e) 3 1 ((lastS ts).caps.length) (ints (lastS ts).caps)]) (R := [_, _]) S 1 rfl) hpv hm hr he) ?_; rintro e_ w ⟨rfl, S_⟩; refine ⟨_, rfl, (fun h => by cases h), ?_⟩; clear E a; intro a E
              replace S : St _ _ _ [.obj _ _ [_, _, _], .obj _ _ [_, _, _, _, _, _, _, _, _, _, _, _, _], _, _, _, .obj _ _ [_, _, _, _, _, _, _, _], _] := St.call (A := [.obj b2 120 [.slice A0 b.length c0, .int .i64 (k : Int), .bool false], .obj g 128 [.int .i64 (G : Int), .int .i64 (ev : Int), .int .i64 16777216, .slice A ((tbytes G ev ts).length) c, .slice B ((tstarts G ev ts).length) d, .int .i64 ((lastS ts).kind), .int .i64 ((lastS ts).node), .int .i64 ((lastS ts).phase), .int .i64 ((lastS ts).pos), .int .i64 ((lastS ts).start), .int .i64 ((lastS ts).depth), .int .i64 ((lastS ts).org), .slice C ((lastS ts).caps.length) e], .row (.slice A ((tbytes G ev ts).length) c) 5 1 ((tbytes G ev ts).length) (u8s (tbytes G ev ts)), .row (.slice B ((tstarts G ev ts).length) d) 3 1 ((tstarts G ev ts).length) (ints (tstarts G ev ts)), .row (.slice C ((lastS ts).caps.length) e) 3 1 ((lastS ts).caps.length) (ints (lastS ts).caps)]) (R := [_, _]) S S_; clear S_ hAw
              refine Run.store (news := [.int .i64 0, .int .i64 0, .int .i64 0, .int .i64 0, .int .i64 0, .int .i64 0, .int .i64 0, .slice none 0 0]) (cs' := [_, _, _, _, _, _, _, _]) (hp' := [_, _, _, _, _, _, _]) 5 rfl E S rfl rfl rfl rfl rfl sz34 rfl rfl rfl rfl ?_; clear S; intro w S
              refine Run.nil ?_
              refine then_n ?_
              refine wp_seq ?_
              refine region_plain (n := 4) [(0, .p), (1, .p), (2, .p), (3, .l)] rfl rfl ?_
              refine Run.move rfl E rfl rfl rfl ?_; clear E a; intro a E
              refine Run.nilCheck rfl E rfl rfl rfl ?_; clear E a; intro a E
              refine Run.fieldAddr rfl E rfl rfl rfl fo120_2 (rfl) ?_; clear E a; intro a E
              refine Run.load1 rfl rfl E S rfl rfl rfl one4 (fun _ s => s.objCell 0 2 rfl rfl) ?_; clear E a; intro a E
              refine Run.nil ?_
              refine then_n ?_
              refine cond_T E rfl ?_
              refine wp_seq ?_
              refine region_plain (n := 2) [(0, .p), (1, .p)] rfl rfl ?_
              refine Run.assign rfl E rfl rfl rfl ?_; clear E a; intro a E
              refine Run.assign rfl E rfl rfl rfl ?_; clear E a; intro a E
              refine Run.nil ?_
              refine then_n ?_
              refine wp_ret ?_
              refine blk_r ?_
              refine then_r ?_
              refine then_r ?_
              refine blk_r ?_
              refine then_r ?_
              exact ret2 E Try.results23 rfl rfl (.inl ⟨by rw [hopn, hop, show M - i = (M - (i + 1)) + 1 by omega, opS_stop hr2 (fun h => he h.1)], rfl, S.belT⟩)
            · skip
              by_cases hR : t.Right (G : Int)
              · skip
                obtain rfl : er = 0 := by omega
                obtain ⟨hst, ha'⟩ := rdF_bwd p1 hb8 hkl hr (by rw [p2]; exact hR)
                subst ha'
                have hAw : 0 < b.length → ∀ b_ o, A0 = some ⟨b_, o, none⟩ → b_ ∉ fps [.obj b2 120 [.slice A0 b.length c0, .int .i64 (k : Int), .bool false], .obj g 128 [.int .i64 (G : Int), .int .i64 (ev : Int), .int .i64 16777216, .slice A ((tbytes G ev ts).length) c, .slice B ((tstarts G ev ts).length) d, .int .i64 ((lastS ts).kind), .int .i64 ((lastS ts).node), .int .i64 ((lastS ts).phase), .int .i64 ((lastS ts).pos), .int .i64 ((lastS ts).start), .int .i64 ((lastS ts).depth), .int .i64 ((lastS ts).org), .slice C ((lastS ts).caps.length) e], .row (.slice A ((tbytes G ev ts).length) c) 5 1 ((tbytes G ev ts).length) (u8s (tbytes G ev ts)), .row (.slice B ((tstarts G ev ts).length) d) 3 1 ((tstarts G ev ts).length) (ints (tstarts G ev ts)), .row (.slice C ((lastS ts).caps.length) e) 3 1 ((lastS ts).caps.length) (ints (lastS ts).caps)] := fun h_ b_ o_ e_ m_ => absurd (St.newL (A := [.obj b2 120 [.slice A0 b.length c0, .int .i64 (k : Int), .bool false], .obj g 128 [.int .i64 (G : Int), .int .i64 (ev : Int), .int .i64 16777216, .slice A ((tbytes G ev ts).length) c, .slice B ((tstarts G ev ts).length) d, .int .i64 ((lastS ts).kind), .int .i64 ((lastS ts).node), .int .i64 ((lastS ts).phase), .int .i64 ((lastS ts).pos), .int .i64 ((lastS ts).start), .int .i64 ((lastS ts).depth), .int .i64 ((lastS ts).org), .slice C ((lastS ts).caps.length) e], .row (.slice A ((tbytes G ev ts).length) c) 5 1 ((tbytes G ev ts).length) (u8s (tbytes G ev ts)), .row (.slice B ((tstarts G ev ts).length) d) 3 1 ((tstarts G ev ts).length) (ints (tstarts G ev ts)), .row (.slice C ((lastS ts).caps.length) e) 3 1 ((lastS ts).caps.length) (ints (lastS ts).caps)]) (R := [_, _]) S m_) (Nat.not_le.2 (H1.lt h_ (by decide) e_))
                refine Run.call (args := [.pointer (some ⟨b2, 0, none⟩), .pointer (some ⟨g, 0, none⟩), .agg #[.int .i64 u.kind, .int .i64 u.node, .int .i64 u.phase, .int .i64 u.pos, .int .i64 u.start, .int .i64 u.depth, .int .i64 u.org, .slice U u.caps.length q]]) rfl rfl E rfl rfl Try.func83 nm83 rfl rfl (frec_ok_l (St.ownL (A := [.obj b2 120 [.slice A0 b.length c0, .int .i64 (k : Int), .bool false], .obj g 128 [.int .i64 (G : Int), .int .i64 (ev : Int), .int .i64 16777216, .slice A ((tbytes G ev ts).length) c, .slice B ((tstarts G ev ts).length) d, .int .i64 ((lastS ts).kind), .int .i64 ((lastS ts).node), .int .i64 ((lastS ts).phase), .int .i64 ((lastS ts).pos), .int .i64 ((lastS ts).start), .int .i64 ((lastS ts).depth), .int .i64 ((lastS ts).org), .slice C ((lastS ts).caps.length) e], .row (.slice A ((tbytes G ev ts).length) c) 5 1 ((tbytes G ev ts).length) (u8s (tbytes G ev ts)), .row (.slice B ((tstarts G ev ts).length) d) 3 1 ((tstarts G ev ts).length) (ints (tstarts G ev ts)), .row (.slice C ((lastS ts).caps.length) e) 3 1 ((lastS ts).caps.length) (ints (lastS ts).caps)]) (R := [_, _]) S) (H1.bel S.belT) hb8 hl hAw hok hlim (by decide) hkl (S.rd 6 rfl) (St.apartRow (A := [.obj b2 120 [.slice A0 b.length c0, .int .i64 (k : Int), .bool false], .obj g 128 [.int .i64 (G : Int), .int .i64 (ev : Int), .int .i64 16777216, .slice A ((tbytes G ev ts).length) c, .slice B ((tstarts G ev ts).length) d, .int .i64 ((lastS ts).kind), .int .i64 ((lastS ts).node), .int .i64 ((lastS ts).phase), .int .i64 ((lastS ts).pos), .int .i64 ((lastS ts).start), .int .i64 ((lastS ts).depth), .int .i64 ((lastS ts).org), .slice C ((lastS ts).caps.length) e], .row (.slice A ((tbytes G ev ts).length) c) 5 1 ((tbytes G ev ts).length) (u8s (tbytes G ev ts)), .row (.slice B ((tstarts G ev ts).length) d) 3 1 ((tstarts G ev ts).length) (ints (tstarts G ev ts)), .row (.slice C ((lastS ts).caps.length) e) 3 1 ((lastS ts).caps.length) (ints (lastS ts).caps)]) (R := [_, _]) S 1 rfl) hpv hm hr (hst.len hkl) hR) ?_; rintro e_ w ⟨D18, e19, Ax12, cx13, Bx14, dx15, Cx16, ex17, rfl, S_⟩; refine ⟨_, rfl, (fun h => by cases h), ?_⟩; clear E a; intro a E
                replace S : St _ _ _ [.obj _ _ [_, _, _], .obj _ _ [_, _, _, _, _, _, _, _, _, _, _, _, _], _, _, _, _, .obj _ _ [_, _, _, _, _, _, _, _], _] := St.call (A := [.obj b2 120 [.slice A0 b.length c0, .int .i64 (k : Int), .bool false], .obj g 128 [.int .i64 (G : Int), .int .i64 (ev : Int), .int .i64 16777216, .slice A ((tbytes G ev ts).length) c, .slice B ((tstarts G ev ts).length) d, .int .i64 ((lastS ts).kind), .int .i64 ((lastS ts).node), .int .i64 ((lastS ts).phase), .int .i64 ((lastS ts).pos), .int .i64 ((lastS ts).start), .int .i64 ((lastS ts).depth), .int .i64 ((lastS ts).org), .slice C ((lastS ts).caps.length) e], .row (.slice A ((tbytes G ev ts).length) c) 5 1 ((tbytes G ev ts).length) (u8s (tbytes G ev ts)), .row (.slice B ((tstarts G ev ts).length) d) 3 1 ((tstarts G ev ts).length) (ints (tstarts G ev ts)), .row (.slice C ((lastS ts).caps.length) e) 3 1 ((lastS ts).caps.length) (ints (lastS ts).caps)]) (R := [_, _]) S S_; clear S_ hAw
                refine Run.store (news := [.int .i64 t.kind, .int .i64 t.node, .int .i64 t.phase, .int .i64 t.pos, .int .i64 t.start, .int .i64 t.depth, .int .i64 t.org, .slice D18 t.caps.length e19]) (cs' := [_, _, _, _, _, _, _, _]) (hp' := [_, _, _, _, _, _, _, _]) 6 rfl E S rfl rfl rfl rfl rfl sz34 rfl rfl rfl rfl ?_; clear S; intro w S
                refine Run.nil ?_
                refine then_n ?_
                refine wp_seq ?_
                refine region_plain (n := 4) [(0, .p), (1, .p), (2, .p), (3, .l)] rfl rfl ?_
                refine Run.move rfl E rfl rfl rfl ?_; clear E a; intro a E
                refine Run.nilCheck rfl E rfl rfl rfl ?_; clear E a; intro a E
                refine Run.fieldAddr rfl E rfl rfl rfl fo120_2 (rfl) ?_; clear E a; intro a E
                refine Run.load1 rfl rfl E S rfl rfl rfl one4 (fun _ s => s.objCell 0 2 rfl rfl) ?_; clear E a; intro a E
                rcases addE_zero (G := G) (ev := ev) (lim := 16777216) (ts := ts) (s := t) with ⟨hE, hT⟩ | ⟨hE, hT⟩
                · skip
                  replace E := E.setb 47 rfl (decide_eq_false (fun h => h hE))
                  obtain ⟨_, hl3⟩ := addE_ok hE
                  have hl2 := hl3; rw [← hpv] at hl2
                  rw [hT] at S
                  rw [show decide (addE G ev 16777216 ts t ≠ 0) = false from decide_eq_false (fun h => h hE)] at S
                  refine Run.nil ?_
                  refine then_n ?_
                  refine cond_F E rfl ?_
                  refine wp_skip ?_
                  refine blk_n ?_
                  refine then_n ?_
                  refine region_plain (n := 2) [(0, .p), (1, .p)] rfl rfl ?_
                  refine Run.add rfl E rfl rfl rfl rfl (i64_ok (by omega)) ?_; clear E a; intro a E
                  refine Run.move rfl E rfl rfl rfl ?_; clear E a; intro a E
                  refine Run.nil ?_
                  refine then_n ?_
                  replace E := E.setv 38 rfl (show Value.int .i64 ((i : Int) + 1) = .int .i64 ((i + 1 : Nat) : Int) from rfl)
                  have S : St _ _ _ [_, _, _, _, _, _, _, _] := S.sel [7, 0, 1, 2, 3, 4, 6, 5] _ rfl rfl
                  have S := S.drop1
                  exact ⟨_, (by omega), (i + 1), Ax12, cx13, Bx14, dx15, Cx16, ex17, (ts ++ [t]), (k + (rec18 u t).length), t, D18, e19, rfl, E.keeps [(0, _), (4, _), (8, _), (10, _), (37, _), (38, _)] ⟨rfl, rfl, rfl, rfl, rfl, rfl, trivial⟩, S, (by omega), (by rw [hop, show M - i = (M - (i + 1)) + 1 by omega, opS_go hr2 hR hl3]), (hok.snoc hR), (by rw [tbytes_snoc, ← hpv]; exact hl2), (hst.len hkl), (wa_step ts t)⟩
                · skip
                  replace E := E.setb 47 rfl (decide_eq_true hE)
                  refine Run.nil ?_
                  refine then_n ?_
                  refine cond_T E rfl ?_
                  refine wp_seq ?_
                  refine region_plain (n := 2) [(0, .p), (1, .p)] rfl rfl ?_
                  refine Run.assign rfl E rfl rfl rfl ?_; clear E a; intro a E
                  refine Run.assign rfl E rfl rfl rfl ?_; clear E a; intro a E
                  refine Run.nil ?_
                  refine then_n ?_
                  refine wp_ret ?_
                  refine blk_r ?_
                  refine then_r ?_
                  refine then_r ?_
                  refine blk_r ?_
                  refine then_r ?_
                  exact ret2 E Try.results23 rfl rfl (.inl ⟨by rw [hopn, hop, show M - i = (M - (i + 1)) + 1 by omega, opS_stop hr2 (fun h => hE (by unfold addE; rw [if_pos h.2.1, if_pos h.2.2]))], rfl, S.belT⟩)
              · skip
                obtain rfl : er = 0 := by omega
                have hAw : 0 < b.length → ∀ b_ o, A0 = some ⟨b_, o, none⟩ → b_ ∉ fps [.obj b2 120 [.slice A0 b.length c0, .int .i64 (k : Int), .bool false], .obj g 128 [.int .i64 (G : Int), .int .i64 (ev : Int), .int .i64 16777216, .slice A ((tbytes G ev ts).length) c, .slice B ((tstarts G ev ts).length) d, .int .i64 ((lastS ts).kind), .int .i64 ((lastS ts).node), .int .i64 ((lastS ts).phase), .int .i64 ((lastS ts).pos), .int .i64 ((lastS ts).start), .int .i64 ((lastS ts).depth), .int .i64 ((lastS ts).org), .slice C ((lastS ts).caps.length) e], .row (.slice A ((tbytes G ev ts).length) c) 5 1 ((tbytes G ev ts).length) (u8s (tbytes G ev ts)), .row (.slice B ((tstarts G ev ts).length) d) 3 1 ((tstarts G ev ts).length) (ints (tstarts G ev ts)), .row (.slice C ((lastS ts).caps.length) e) 3 1 ((lastS ts).caps.length) (ints (lastS ts).caps)] := fun h_ b_ o_ e_ m_ => absurd (St.newL (A := [.obj b2 120 [.slice A0 b.length c0, .int .i64 (k : Int), .bool false], .obj g 128 [.int .i64 (G : Int), .int .i64 (ev : Int), .int .i64 16777216, .slice A ((tbytes G ev ts).length) c, .slice B ((tstarts G ev ts).length) d, .int .i64 ((lastS ts).kind), .int .i64 ((lastS ts).node), .int .i64 ((lastS ts).phase), .int .i64 ((lastS ts).pos), .int .i64 ((lastS ts).start), .int .i64 ((lastS ts).depth), .int .i64 ((lastS ts).org), .slice C ((lastS ts).caps.length) e], .row (.slice A ((tbytes G ev ts).length) c) 5 1 ((tbytes G ev ts).length) (u8s (tbytes G ev ts)), .row (.slice B ((tstarts G ev ts).length) d) 3 1 ((tstarts G ev ts).length) (ints (tstarts G ev ts)), .row (.slice C ((lastS ts).caps.length) e) 3 1 ((lastS ts).caps.length) (ints (lastS ts).caps)]) (R := [_, _]) S m_) (Nat.not_le.2 (H1.lt h_ (by decide) e_))
                refine Run.call (args := [.pointer (some ⟨b2, 0, none⟩), .pointer (some ⟨g, 0, none⟩), .agg #[.int .i64 u.kind, .int .i64 u.node, .int .i64 u.phase, .int .i64 u.pos, .int .i64 u.start, .int .i64 u.depth, .int .i64 u.org, .slice U u.caps.length q]]) rfl rfl E rfl rfl Try.func83 nm83 rfl rfl (frec_nor_l (St.ownL (A := [.obj b2 120 [.slice A0 b.length c0, .int .i64 (k : Int), .bool false], .obj g 128 [.int .i64 (G : Int), .int .i64 (ev : Int), .int .i64 16777216, .slice A ((tbytes G ev ts).length) c, .slice B ((tstarts G ev ts).length) d, .int .i64 ((lastS ts).kind), .int .i64 ((lastS ts).node), .int .i64 ((lastS ts).phase), .int .i64 ((lastS ts).pos), .int .i64 ((lastS ts).start), .int .i64 ((lastS ts).depth), .int .i64 ((lastS ts).org), .slice C ((lastS ts).caps.length) e], .row (.slice A ((tbytes G ev ts).length) c) 5 1 ((tbytes G ev ts).length) (u8s (tbytes G ev ts)), .row (.slice B ((tstarts G ev ts).length) d) 3 1 ((tstarts G ev ts).length) (ints (tstarts G ev ts)), .row (.slice C ((lastS ts).caps.length) e) 3 1 ((lastS ts).caps.length) (ints (lastS ts).caps)]) (R := [_, _]) S) (H1.bel S.belT) hb8 hl hAw hok hlim (by decide) hkl (S.rd 6 rfl) (St.apartRow (A := [.obj b2 120 [.slice A0 b.length c0, .int .i64 (k : Int), .bool false], .obj g 128 [.int .i64 (G : Int), .int .i64 (ev : Int), .int .i64 16777216, .slice A ((tbytes G ev ts).length) c, .slice B ((tstarts G ev ts).length) d, .int .i64 ((lastS ts).kind), .int .i64 ((lastS ts).node), .int .i64 ((lastS ts).phase), .int .i64 ((lastS ts).pos), .int .i64 ((lastS ts).start), .int .i64 ((lastS ts).depth), .int .i64 ((lastS ts).org), .slice C ((lastS ts).caps.length) e], .row (.slice A ((tbytes G ev ts).length) c) 5 1 ((tbytes G ev ts).length) (u8s (tbytes G ev ts)), .row (.slice B ((tstarts G ev ts).length) d) 3 1 ((tstarts G ev ts).length) (ints (tstarts G ev ts)), .row (.slice C ((lastS ts).caps.length) e) 3 1 ((lastS ts).caps.length) (ints (lastS ts).caps)]) (R := [_, _]) S 1 rfl) hpv hm hr hR) ?_; rintro e_ w ⟨rfl, S_⟩; refine ⟨_, rfl, (fun h => by cases h), ?_⟩; clear E a; intro a E
                replace S : St _ _ _ [.obj _ _ [_, _, _], .obj _ _ [_, _, _, _, _, _, _, _, _, _, _, _, _], _, _, _, .obj _ _ [_, _, _, _, _, _, _, _], _] := St.call (A := [.obj b2 120 [.slice A0 b.length c0, .int .i64 (k : Int), .bool false], .obj g 128 [.int .i64 (G : Int), .int .i64 (ev : Int), .int .i64 16777216, .slice A ((tbytes G ev ts).length) c, .slice B ((tstarts G ev ts).length) d, .int .i64 ((lastS ts).kind), .int .i64 ((lastS ts).node), .int .i64 ((lastS ts).phase), .int .i64 ((lastS ts).pos), .int .i64 ((lastS ts).start), .int .i64 ((lastS ts).depth), .int .i64 ((lastS ts).org), .slice C ((lastS ts).caps.length) e], .row (.slice A ((tbytes G ev ts).length) c) 5 1 ((tbytes G ev ts).length) (u8s (tbytes G ev ts)), .row (.slice B ((tstarts G ev ts).length) d) 3 1 ((tstarts G ev ts).length) (ints (tstarts G ev ts)), .row (.slice C ((lastS ts).caps.length) e) 3 1 ((lastS ts).caps.length) (ints (lastS ts).caps)]) (R := [_, _]) S S_; clear S_ hAw
                refine Run.store (news := [.int .i64 0, .int .i64 0, .int .i64 0, .int .i64 0, .int .i64 0, .int .i64 0, .int .i64 0, .slice none 0 0]) (cs' := [_, _, _, _, _, _, _, _]) (hp' := [_, _, _, _, _, _, _]) 5 rfl E S rfl rfl rfl rfl rfl sz34 rfl rfl rfl rfl ?_; clear S; intro w S
                refine Run.nil ?_
                refine then_n ?_
                refine wp_seq ?_
                refine region_plain (n := 4) [(0, .p), (1, .p), (2, .p), (3, .l)] rfl rfl ?_
                refine Run.move rfl E rfl rfl rfl ?_; clear E a; intro a E
                refine Run.nilCheck rfl E rfl rfl rfl ?_; clear E a; intro a E
                refine Run.fieldAddr rfl E rfl rfl rfl fo120_2 (rfl) ?_; clear E a; intro a E
                refine Run.load1 rfl rfl E S rfl rfl rfl one4 (fun _ s => s.objCell 0 2 rfl rfl) ?_; clear E a; intro a E
                refine Run.nil ?_
                refine then_n ?_
                refine cond_T E rfl ?_
                refine wp_seq ?_
                refine region_plain (n := 2) [(0, .p), (1, .p)] rfl rfl ?_
                refine Run.assign rfl E rfl rfl rfl ?_; clear E a; intro a E
                refine Run.assign rfl E rfl rfl rfl ?_; clear E a; intro a E
                refine Run.nil ?_
                refine then_n ?_
                refine wp_ret ?_
                refine blk_r ?_
                refine then_r ?_
                refine then_r ?_
                refine blk_r ?_
                refine then_r ?_
                exact ret2 E Try.results23 rfl rfl (.inl ⟨by rw [hopn, hop, show M - i = (M - (i + 1)) + 1 by omega, opS_stop hr2 (fun h => hR h.2.1)], rfl, S.belT⟩)
        · skip
          refine Run.lss rfl E rfl rfl rfl rfl (decide_eq_false (by omega)) ?_; clear E a; intro a E
          refine Run.nil ?_
          refine then_n ?_
          refine wp_seq ?_
          refine cond_F E rfl ?_
          refine wp_exit ?_
          refine then_x ?_
          refine then_x ?_
          refine blk_x ?_
          refine then_n ?_
          refine wp_seq ?_
          refine wp_seq ?_
          refine region_plain (n := 7) [(0, .p), (1, .p), (2, .p), (3, .l), (4, .p), (5, .p), (6, .p)] rfl rfl ?_
          refine Run.move rfl E rfl rfl rfl ?_; clear E a; intro a E
          refine Run.nilCheck rfl E rfl rfl rfl ?_; clear E a; intro a E
          refine Run.fieldAddr rfl E rfl rfl rfl fo120_1 (rfl) ?_; clear E a; intro a E
          refine Run.load1 rfl rfl E S rfl rfl rfl one3 (fun _ s => s.objCell 0 1 rfl rfl) ?_; clear E a; intro a E
          refine Run.move rfl E rfl rfl rfl ?_; clear E a; intro a E
          refine Run.len rfl E rfl rfl rfl Try.underlying22 ?_; clear E a; intro a E
          have hi2 : M - i = 0 := by omega
          rw [hi2, opS] at hop
          by_cases hend : k = b.length
          · skip
            refine Run.nei rfl E rfl rfl rfl rfl (decide_eq_false (by omega)) ?_; clear E a; intro a E
            refine Run.nil ?_
            refine then_n ?_
            refine cond_F E rfl ?_
            refine wp_skip ?_
            refine then_n ?_
            refine wp_seq ?_
            refine region_plain (n := 3) [(0, .p), (1, .p), (2, .p)] rfl rfl ?_
            refine Run.move rfl E rfl rfl rfl ?_; clear E a; intro a E
            refine Run.assign rfl E rfl rfl rfl ?_; clear E a; intro a E
            refine Run.assign rfl E rfl rfl rfl ?_; clear E a; intro a E
            refine Run.nil ?_
            refine then_n ?_
            refine wp_ret ?_
            have S : St _ _ _ [_, _, _, _, _, _, _] := S.sel [0, 5, 6, 1, 2, 3, 4] _ rfl rfl
            have S := S.drop1.drop1.drop1
            exact ret2 E Try.results23 rfl rfl (.inr ⟨G, ev, ts, by rw [hopn, hop]; dsimp only; rw [if_pos (by rw [hend])], g, A, c, B, d, C, e, rfl, S⟩)
          · skip
            refine Run.nei rfl E rfl rfl rfl rfl (decide_eq_true (by omega)) ?_; clear E a; intro a E
            refine Run.nil ?_
            refine then_n ?_
            refine cond_T E rfl ?_
            refine wp_seq ?_
            refine region_plain (n := 2) [(0, .p), (1, .p)] rfl rfl ?_
            refine Run.assign rfl E rfl rfl rfl ?_; clear E a; intro a E
            refine Run.assign rfl E rfl rfl rfl ?_; clear E a; intro a E
            refine Run.nil ?_
            refine then_n ?_
            refine wp_ret ?_
            refine then_r ?_
            exact ret2 E Try.results23 rfl rfl (.inl ⟨by rw [hopn, hop]; dsimp only; rw [if_neg (by omega)], rfl, S.belT⟩)
      · skip
        refine Run.call (args := [.int .i64 v1_, .int .i64 v2_, .int .i64 16777216]) rfl rfl E rfl rfl Try.func73 nm73 rfl rfl (tape_bad (fun h => hev h.2.1.1)) ?_; rintro e_ w ⟨rfl, B_⟩; refine ⟨_, rfl, fun _ => B_, ?_⟩; clear E a; replace S := S.bel B_; intro a E
        clear B_
        refine Run.move rfl E rfl rfl rfl ?_; clear E a; intro a E
        refine Run.extract rfl E rfl rfl rfl rfl ?_; clear E a; intro a E
        refine Run.extract rfl E rfl rfl rfl rfl ?_; clear E a; intro a E
        refine Run.assign rfl E rfl rfl rfl ?_; clear E a; intro a E
        refine Run.assign rfl E rfl rfl rfl ?_; clear E a; intro a E
        refine Run.nil ?_
        refine then_n ?_
        refine wp_seq ?_
        refine wp_seq ?_
        refine region_plain (n := 2) [(0, .p), (1, .p)] rfl rfl ?_
        refine Run.move rfl E rfl rfl rfl ?_; clear E a; intro a E
        refine Run.nei rfl E rfl rfl rfl rfl (b := true) (by decide) ?_; clear E a; intro a E
        refine Run.nil ?_
        refine then_n ?_
        refine cond_T E rfl ?_
        refine wp_seq ?_
        refine region_plain (n := 2) [(0, .p), (1, .p)] rfl rfl ?_
        refine Run.assign rfl E rfl rfl rfl ?_; clear E a; intro a E
        refine Run.assign rfl E rfl rfl rfl ?_; clear E a; intro a E
        refine Run.nil ?_
        refine then_n ?_
        refine wp_ret ?_
        refine then_r ?_
        exact ret2 E Try.results23 rfl rfl (.inl ⟨by rw [opnF_eq hp h1_ h2_ h3_, if_neg (fun h => hev h.2)], rfl, S.belT⟩)
  · skip
    replace E := E.setb 14 rfl (decide_eq_false hp)
    refine Run.not rfl E rfl rfl rfl rfl ?_; clear E a; intro a E
    refine Run.nil ?_
    refine then_n ?_
    refine cond_T E rfl ?_
    refine wp_seq ?_
    refine region_plain (n := 2) [(0, .p), (1, .p)] rfl rfl ?_
    refine Run.assign rfl E rfl rfl rfl ?_; clear E a; intro a E
    refine Run.assign rfl E rfl rfl rfl ?_; clear E a; intro a E
    refine Run.nil ?_
    refine then_n ?_
    refine wp_ret ?_
    refine then_r ?_
    exact ret2 E Try.results23 rfl rfl (.inl ⟨opnF_no hp, rfl, S.belT⟩)

theorem open_none (H1 : Rd w0 A0 b.length 1 (u8s b)) (hb8 : ∀ x ∈ b, x < 256) (hl : b.length ≤ 140737488355328) (hbc : b.length ≤ c0) (h : opnF b = none) : Calls Try.prog 23 [.slice A0 b.length c0].toArray w0 (fun r_ w' => r_ = .returned (.tuple #[.pointer none, .int .i64 11]) ∧ Bel w0 w') :=
  (open_walk H1 hb8 hl hbc).mono fun r w' hh => by
    rcases hh with ⟨_, h1, h2⟩ | ⟨G, ev, ts, h1, _⟩
    · exact ⟨h1, h2⟩
    · rw [h] at h1; cases h1
theorem open_some (H1 : Rd w0 A0 b.length 1 (u8s b)) (hb8 : ∀ x ∈ b, x < 256) (hl : b.length ≤ 140737488355328) (hbc : b.length ≤ c0) (h : opnF b = some (G, ev, ts)) : Calls Try.prog 23 [.slice A0 b.length c0].toArray w0 (fun r_ w' => ∃ g A c B d C e, r_ = .returned (.tuple #[.pointer (some ⟨g, 0, none⟩), .int .i64 0]) ∧ St [] w0 w' [.obj g 128 [.int .i64 (G : Int), .int .i64 (ev : Int), .int .i64 16777216, .slice A ((tbytes G ev ts).length) c, .slice B ((tstarts G ev ts).length) d, .int .i64 ((lastS ts).kind), .int .i64 ((lastS ts).node), .int .i64 ((lastS ts).phase), .int .i64 ((lastS ts).pos), .int .i64 ((lastS ts).start), .int .i64 ((lastS ts).depth), .int .i64 ((lastS ts).org), .slice C ((lastS ts).caps.length) e], .row (.slice A ((tbytes G ev ts).length) c) 5 1 ((tbytes G ev ts).length) (u8s (tbytes G ev ts)), .row (.slice B ((tstarts G ev ts).length) d) 3 1 ((tstarts G ev ts).length) (ints (tstarts G ev ts)), .row (.slice C ((lastS ts).caps.length) e) 3 1 ((lastS ts).caps.length) (ints (lastS ts).caps)]) :=
  (open_walk H1 hb8 hl hbc).mono fun r w' hh => by
    rcases hh with ⟨h1, _⟩ | ⟨G', ev', ts', h1, h2⟩
    · rw [h] at h1; cases h1
    · rw [h] at h1
      simp only [Option.some.injEq, Prod.mk.injEq] at h1
      obtain ⟨rfl, rfl, rfl⟩ := h1
      exact h2

set_option maxHeartbeats 2000000 in
theorem anchor20  : Calls Try.prog 22 [].toArray w0 (fun r w' => r = .returned (.bool true) ∧ Bel w0 w') := by
  have S := St.nil [] w0
  refine fn_start Try.func22 rfl 38 rfl rfl [] trivial ?_; intro a E
  refine wp_seq ?_
  refine region_plain (n := 1) [(0, .p)] rfl rfl ?_
  refine Run.assign rfl E rfl rfl rfl ?_; clear E a; intro a E
  refine Run.nil ?_
  refine then_n ?_
  refine wp_seq ?_
  refine region_plain (n := 6) [(0, .e), (1, .p), (2, .p), (3, .p), (4, .p), (5, .p)] rfl rfl ?_
  refine Run.call (args := [.int .i64 0, .int .i64 2, .int .i64 9]) rfl rfl E rfl rfl Try.func73 nm73 rfl rfl (tape_new (G := 0) (ev := 2) (lim := 9) (by decide) (by decide) (by decide) (by decide) (by decide)) ?_; rintro e_ w ⟨g, rfl, S_⟩; refine ⟨_, rfl, (fun _ => S_.belT), ?_⟩; clear E a; intro a E
  replace S : St _ _ _ [.obj _ _ [_, _, _, _, _, _, _, _, _, _, _, _, _], _, _, _] := St.call (A := []) (R := []) S S_; clear S_
  refine Run.move rfl E rfl rfl rfl ?_; clear E a; intro a E
  refine Run.extract rfl E rfl rfl rfl rfl ?_; clear E a; intro a E
  refine Run.extract rfl E rfl rfl rfl rfl ?_; clear E a; intro a E
  refine Run.assign rfl E rfl rfl rfl ?_; clear E a; intro a E
  refine Run.assign rfl E rfl rfl rfl ?_; clear E a; intro a E
  refine Run.nil ?_
  refine then_n ?_
  refine wp_seq ?_
  refine wp_seq ?_
  refine region_plain (n := 6) [(0, .p), (1, .p), (2, .p), (3, .p), (4, .p), (5, .p)] rfl rfl ?_
  refine Run.move rfl E rfl rfl rfl ?_; clear E a; intro a E
  refine Run.nei rfl E rfl rfl rfl rfl (b := false) (by decide) ?_; clear E a; intro a E
  refine Run.move rfl E rfl rfl rfl ?_; clear E a; intro a E
  refine Run.move rfl E rfl rfl rfl ?_; clear E a; intro a E
  refine Run.bin (v := .bool false) rfl E rfl rfl rfl rfl (fun _ => by kernel_rfl) ?_; clear E a; intro a E
  refine Run.pickF rfl E rfl rfl rfl rfl ?_; clear E a; intro a E
  refine Run.nil ?_
  refine then_n ?_
  refine cond_F E rfl ?_
  refine wp_skip ?_
  refine then_n ?_
  refine wp_seq ?_
  refine region_plain (n := 8) [(0, .e), (1, .l), (2, .e), (3, .p), (4, .p), (5, .p), (6, .p), (7, .p)] rfl rfl ?_
  refine Run.buildSlice (cs := [.int .u8 67, .int .u8 76, .int .u8 87, .int .u8 49, .int .u8 0, .int .u8 2, .int .u8 0]) [(0, .int .u8 67), (1, .int .u8 76), (2, .int .u8 87), (3, .int .u8 49), (4, .int .u8 0), (5, .int .u8 2), (6, .int .u8 0)] rfl rfl E S rfl rfl rfl Try.underlying22 (by kernel_rfl) ?_; clear E a S; intro b1 w a E S B_; clear B_
  refine Run.convMark rfl E S rfl rfl rfl rfl Try.underlying22 Try.underlying5 ?_; clear E a S; intro w a E S Hm
  replace Hm : Rd _ _ _ 1 (u8s [67, 76, 87, 49, 0, 2, 0]) := Hm
  refine Run.call (args := [.slice (some ⟨b1, 0, none⟩) 7 7]) rfl rfl E rfl rfl Try.func23 nm23 rfl rfl (open_some (b := [67, 76, 87, 49, 0, 2, 0]) Hm (by decide) (by decide) (by decide) opn_nil) ?_; rintro e_ w ⟨gy2, Ay3, cy4, By5, dy6, Cy7, ey8, rfl, S_⟩; refine ⟨_, rfl, (fun _ => S_.belT), ?_⟩; clear E a; intro a E
  replace S : St _ _ _ [.obj _ _ [_, _, _, _, _, _, _, _, _, _, _, _, _], _, _, _, .obj _ _ [_, _, _, _, _, _, _, _, _, _, _, _, _], _, _, _] := St.call (A := []) (R := [_, _, _, _]) S S_; clear S_
  refine Run.move rfl E rfl rfl rfl ?_; clear E a; intro a E
  refine Run.extract rfl E rfl rfl rfl rfl ?_; clear E a; intro a E
  refine Run.extract rfl E rfl rfl rfl rfl ?_; clear E a; intro a E
  refine Run.assign rfl E rfl rfl rfl ?_; clear E a; intro a E
  refine Run.assign rfl E rfl rfl rfl ?_; clear E a; intro a E
  refine Run.nil ?_
  refine then_n ?_
  refine wp_seq ?_
  refine region_plain (n := 18) [(0, .p), (1, .p), (2, .p), (3, .p), (4, .p), (5, .p), (6, .p), (7, .p), (8, .e), (9, .p), (10, .p), (11, .p), (12, .p), (13, .e), (14, .l), (15, .p), (16, .p), (17, .p)] rfl rfl ?_
  refine Run.move rfl E rfl rfl rfl ?_; clear E a; intro a E
  refine Run.eqi rfl E rfl rfl rfl rfl (b := true) (by decide) ?_; clear E a; intro a E
  refine Run.move rfl E rfl rfl rfl ?_; clear E a; intro a E
  refine Run.move rfl E rfl rfl rfl ?_; clear E a; intro a E
  refine Run.bin (v := .bool true) rfl E rfl rfl rfl rfl (fun _ => by kernel_rfl) ?_; clear E a; intro a E
  refine Run.pickT rfl E rfl rfl rfl rfl ?_; clear E a; intro a E
  refine Run.move rfl E rfl rfl rfl ?_; clear E a; intro a E
  refine Run.move rfl E rfl rfl rfl ?_; clear E a; intro a E
  refine Run.call (args := [.pointer (some ⟨gy2, 0, none⟩)]) rfl rfl E rfl rfl Try.func39 nm39 rfl rfl (tape_every (St.holdsL (A := [.obj gy2 128 [.int .i64 ((0 : Nat) : Int), .int .i64 ((2 : Nat) : Int), .int .i64 16777216, .slice Ay3 ((tbytes 0 2 ([] : List Sta)).length) cy4, .slice By5 ((tstarts 0 2 ([] : List Sta)).length) dy6, .int .i64 ((lastS ([] : List Sta)).kind), .int .i64 ((lastS ([] : List Sta)).node), .int .i64 ((lastS ([] : List Sta)).phase), .int .i64 ((lastS ([] : List Sta)).pos), .int .i64 ((lastS ([] : List Sta)).start), .int .i64 ((lastS ([] : List Sta)).depth), .int .i64 ((lastS ([] : List Sta)).org), .slice Cy7 ((lastS ([] : List Sta)).caps.length) ey8], .row (.slice Ay3 ((tbytes 0 2 ([] : List Sta)).length) cy4) 5 1 ((tbytes 0 2 ([] : List Sta)).length) (u8s (tbytes 0 2 ([] : List Sta))), .row (.slice By5 ((tstarts 0 2 ([] : List Sta)).length) dy6) 3 1 ((tstarts 0 2 ([] : List Sta)).length) (ints (tstarts 0 2 ([] : List Sta))), .row (.slice Cy7 ((lastS ([] : List Sta)).caps.length) ey8) 3 1 ((lastS ([] : List Sta)).caps.length) (ints (lastS ([] : List Sta)).caps)]) (R := [_, _, _, _]) (S.sel [0, 1, 2, 3, 4, 5, 6, 7] ([.obj gy2 128 [.int .i64 ((0 : Nat) : Int), .int .i64 ((2 : Nat) : Int), .int .i64 16777216, .slice Ay3 ((tbytes 0 2 ([] : List Sta)).length) cy4, .slice By5 ((tstarts 0 2 ([] : List Sta)).length) dy6, .int .i64 ((lastS ([] : List Sta)).kind), .int .i64 ((lastS ([] : List Sta)).node), .int .i64 ((lastS ([] : List Sta)).phase), .int .i64 ((lastS ([] : List Sta)).pos), .int .i64 ((lastS ([] : List Sta)).start), .int .i64 ((lastS ([] : List Sta)).depth), .int .i64 ((lastS ([] : List Sta)).org), .slice Cy7 ((lastS ([] : List Sta)).caps.length) ey8], .row (.slice Ay3 ((tbytes 0 2 ([] : List Sta)).length) cy4) 5 1 ((tbytes 0 2 ([] : List Sta)).length) (u8s (tbytes 0 2 ([] : List Sta))), .row (.slice By5 ((tstarts 0 2 ([] : List Sta)).length) dy6) 3 1 ((tstarts 0 2 ([] : List Sta)).length) (ints (tstarts 0 2 ([] : List Sta))), .row (.slice Cy7 ((lastS ([] : List Sta)).caps.length) ey8) 3 1 ((lastS ([] : List Sta)).caps.length) (ints (lastS ([] : List Sta)).caps)] ++ [_, _, _, _]) rfl rfl))) ?_; rintro e_ w ⟨rfl, B_⟩; refine ⟨_, rfl, fun _ => B_, ?_⟩; clear E a; replace S := S.bel B_; intro a E
  clear B_
  refine Run.eqi rfl E rfl rfl rfl rfl (b := true) (by decide) ?_; clear E a; intro a E
  refine Run.pickT rfl E rfl rfl rfl rfl ?_; clear E a; intro a E
  refine Run.move rfl E rfl rfl rfl ?_; clear E a; intro a E
  refine Run.move rfl E rfl rfl rfl ?_; clear E a; intro a E
  refine Run.call (args := [.pointer (some ⟨g, 0, none⟩)]) rfl rfl E rfl rfl Try.func24 nm24 rfl rfl (pack_walk (St.holdsL (A := [.obj g 128 [.int .i64 ((0 : Nat) : Int), .int .i64 ((2 : Nat) : Int), .int .i64 9, .slice none ((tbytes 0 2 ([] : List Sta)).length) 0, .slice none ((tstarts 0 2 ([] : List Sta)).length) 0, .int .i64 ((lastS ([] : List Sta)).kind), .int .i64 ((lastS ([] : List Sta)).node), .int .i64 ((lastS ([] : List Sta)).phase), .int .i64 ((lastS ([] : List Sta)).pos), .int .i64 ((lastS ([] : List Sta)).start), .int .i64 ((lastS ([] : List Sta)).depth), .int .i64 ((lastS ([] : List Sta)).org), .slice none ((lastS ([] : List Sta)).caps.length) 0], .row (.slice none ((tbytes 0 2 ([] : List Sta)).length) 0) 5 1 ((tbytes 0 2 ([] : List Sta)).length) (u8s (tbytes 0 2 ([] : List Sta))), .row (.slice none ((tstarts 0 2 ([] : List Sta)).length) 0) 3 1 ((tstarts 0 2 ([] : List Sta)).length) (ints (tstarts 0 2 ([] : List Sta))), .row (.slice none ((lastS ([] : List Sta)).caps.length) 0) 3 1 ((lastS ([] : List Sta)).caps.length) (ints (lastS ([] : List Sta)).caps)]) (R := [_, _, _, _]) (S.sel [4, 5, 6, 7, 0, 1, 2, 3] ([.obj g 128 [.int .i64 ((0 : Nat) : Int), .int .i64 ((2 : Nat) : Int), .int .i64 9, .slice none ((tbytes 0 2 ([] : List Sta)).length) 0, .slice none ((tstarts 0 2 ([] : List Sta)).length) 0, .int .i64 ((lastS ([] : List Sta)).kind), .int .i64 ((lastS ([] : List Sta)).node), .int .i64 ((lastS ([] : List Sta)).phase), .int .i64 ((lastS ([] : List Sta)).pos), .int .i64 ((lastS ([] : List Sta)).start), .int .i64 ((lastS ([] : List Sta)).depth), .int .i64 ((lastS ([] : List Sta)).org), .slice none ((lastS ([] : List Sta)).caps.length) 0], .row (.slice none ((tbytes 0 2 ([] : List Sta)).length) 0) 5 1 ((tbytes 0 2 ([] : List Sta)).length) (u8s (tbytes 0 2 ([] : List Sta))), .row (.slice none ((tstarts 0 2 ([] : List Sta)).length) 0) 3 1 ((tstarts 0 2 ([] : List Sta)).length) (ints (tstarts 0 2 ([] : List Sta))), .row (.slice none ((lastS ([] : List Sta)).caps.length) 0) 3 1 ((lastS ([] : List Sta)).caps.length) (ints (lastS ([] : List Sta)).caps)] ++ [_, _, _, _]) rfl rfl)) (TapeOK.nil (by decide) (by decide) (by decide)) (by decide)) ?_; rintro e_ w ⟨X9, e10, rfl, S_⟩; refine ⟨_, rfl, (fun _ => S_.belT), ?_⟩; clear E a; intro a E
  replace S : St _ _ _ [_, .obj _ _ [_, _, _, _, _, _, _, _, _, _, _, _, _], _, _, _, .obj _ _ [_, _, _, _, _, _, _, _, _, _, _, _, _], _, _, _] := St.call (A := []) (R := [_, _, _, _, _, _, _, _]) S S_; clear S_
  refine Run.toStr (l := (packB 0 2 [])) rfl rfl E rfl rfl rfl (S.rd 0 rfl) rfl Try.underlying22 Try.underlying5 Try.underlying9 ?_; clear E a; intro a E
  refine Run.eqs (b := true) rfl E rfl rfl rfl rfl (by rw [pack_nil]; kernel_rfl) ?_; clear E a; intro a E
  refine Run.pickT rfl E rfl rfl rfl rfl ?_; clear E a; intro a E
  refine Run.assign rfl E rfl rfl rfl ?_; clear E a; intro a E
  refine Run.nil ?_
  refine then_n ?_
  refine wp_ret ?_
  exact ret1 E Try.results22 rfl ⟨rfl, S.belT⟩

end
end Go.Proofs.Ytlcglefbhlhcpaa.K
