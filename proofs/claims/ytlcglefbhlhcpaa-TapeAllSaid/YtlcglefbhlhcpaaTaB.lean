/- A tape by its states: Add, After, Block, At. -/
import Derived.Test.YtlcglefbhlhcpaaKg
import Derived.Test.YtlcglefbhlhcpaaTaQ
namespace Go.Proofs.Ytlcglefbhlhcpaa.K
open Go.RowKit
set_option linter.unusedVariables false
set_option maxRecDepth 100000
set_option maxHeartbeats 400000

section
variable {w0 : World} {A B C D U O : Option Addr} {c d e f g q cO : Nat} {bs l : List Nat} {sts : List Int} {la s u t : Sta} {G ev k p : Nat} {lim : Int} {ts : List Sta}

theorem tadd_walk (H : Own w0 [.obj g 128 [.int .i64 (G : Int), .int .i64 (ev : Int), .int .i64 lim, .slice A ((tbytes G ev ts).length) c, .slice B ((tstarts G ev ts).length) d, .int .i64 ((lastS ts).kind), .int .i64 ((lastS ts).node), .int .i64 ((lastS ts).phase), .int .i64 ((lastS ts).pos), .int .i64 ((lastS ts).start), .int .i64 ((lastS ts).depth), .int .i64 ((lastS ts).org), .slice C ((lastS ts).caps.length) e], .row (.slice A ((tbytes G ev ts).length) c) 5 1 ((tbytes G ev ts).length) (u8s (tbytes G ev ts)), .row (.slice B ((tstarts G ev ts).length) d) 3 1 ((tstarts G ev ts).length) (ints (tstarts G ev ts)), .row (.slice C ((lastS ts).caps.length) e) 3 1 ((lastS ts).caps.length) (ints (lastS ts).caps)]) (hok : TapeOK G ev ts) (hlim : ((tbytes G ev ts).length : Int) ≤ lim) (hl1 : lim ≤ 16777216) (H1 : Rd w0 D s.caps.length 1 (ints s.caps)) (hDw : 0 < s.caps.length → ∀ b_ o, D = some ⟨b_, o, none⟩ → b_ ∉ fps [.obj g 128 [.int .i64 (G : Int), .int .i64 (ev : Int), .int .i64 lim, .slice A ((tbytes G ev ts).length) c, .slice B ((tstarts G ev ts).length) d, .int .i64 ((lastS ts).kind), .int .i64 ((lastS ts).node), .int .i64 ((lastS ts).phase), .int .i64 ((lastS ts).pos), .int .i64 ((lastS ts).start), .int .i64 ((lastS ts).depth), .int .i64 ((lastS ts).org), .slice C ((lastS ts).caps.length) e], .row (.slice A ((tbytes G ev ts).length) c) 5 1 ((tbytes G ev ts).length) (u8s (tbytes G ev ts)), .row (.slice B ((tstarts G ev ts).length) d) 3 1 ((tstarts G ev ts).length) (ints (tstarts G ev ts)), .row (.slice C ((lastS ts).caps.length) e) 3 1 ((lastS ts).caps.length) (ints (lastS ts).caps)]) (hs : s.caps.length ≤ 140737488355328) : Calls Try.prog 75 [.pointer (some ⟨g, 0, none⟩), .agg #[.int .i64 s.kind, .int .i64 s.node, .int .i64 s.phase, .int .i64 s.pos, .int .i64 s.start, .int .i64 s.depth, .int .i64 s.org, .slice D s.caps.length f]].toArray w0 (fun r w' => r = .returned (.int .i64 (addE G ev lim ts s)) ∧ ∃ A' c' B' d' C' e', St (fps [.obj g 128 [.int .i64 (G : Int), .int .i64 (ev : Int), .int .i64 lim, .slice A ((tbytes G ev ts).length) c, .slice B ((tstarts G ev ts).length) d, .int .i64 ((lastS ts).kind), .int .i64 ((lastS ts).node), .int .i64 ((lastS ts).phase), .int .i64 ((lastS ts).pos), .int .i64 ((lastS ts).start), .int .i64 ((lastS ts).depth), .int .i64 ((lastS ts).org), .slice C ((lastS ts).caps.length) e], .row (.slice A ((tbytes G ev ts).length) c) 5 1 ((tbytes G ev ts).length) (u8s (tbytes G ev ts)), .row (.slice B ((tstarts G ev ts).length) d) 3 1 ((tstarts G ev ts).length) (ints (tstarts G ev ts)), .row (.slice C ((lastS ts).caps.length) e) 3 1 ((lastS ts).caps.length) (ints (lastS ts).caps)]) w0 w' [.obj g 128 [.int .i64 (G : Int), .int .i64 (ev : Int), .int .i64 lim, .slice (A') ((tbytes G ev (addT G ev lim ts s)).length) (c'), .slice (B') ((tstarts G ev (addT G ev lim ts s)).length) (d'), .int .i64 ((lastS (addT G ev lim ts s)).kind), .int .i64 ((lastS (addT G ev lim ts s)).node), .int .i64 ((lastS (addT G ev lim ts s)).phase), .int .i64 ((lastS (addT G ev lim ts s)).pos), .int .i64 ((lastS (addT G ev lim ts s)).start), .int .i64 ((lastS (addT G ev lim ts s)).depth), .int .i64 ((lastS (addT G ev lim ts s)).org), .slice (C') ((lastS (addT G ev lim ts s)).caps.length) (e')], .row (.slice (A') ((tbytes G ev (addT G ev lim ts s)).length) (c')) 5 1 ((tbytes G ev (addT G ev lim ts s)).length) (u8s (tbytes G ev (addT G ev lim ts s))), .row (.slice (B') ((tstarts G ev (addT G ev lim ts s)).length) (d')) 3 1 ((tstarts G ev (addT G ev lim ts s)).length) (ints (tstarts G ev (addT G ev lim ts s))), .row (.slice (C') ((lastS (addT G ev lim ts s)).caps.length) (e')) 3 1 ((lastS (addT G ev lim ts s)).caps.length) (ints (lastS (addT G ev lim ts s)).caps)]) := by
  obtain ⟨z1, z2, z3⟩ := sat_le hok hlim hl1
  obtain ⟨p1, p2, p3⟩ := hok.prev (Nat.le_refl ts.length)
  have hg := hok.g
  have hls : (lastS ts).caps.length ≤ 202 := z3
  have hlen := tstarts_len G ev ts
  by_cases hR : s.Right (G : Int)
  · by_cases hf : ((tbytes G ev ts ++ rec18 (prevS G ev ts ts.length) s).length : Int) ≤ lim
    · have e1 : addE G ev lim ts s = 0 := by unfold addE; rw [if_pos hR, if_pos hf]
      have e2 : addT G ev lim ts s = ts ++ [s] := by unfold addT; rw [if_pos ⟨hR, hf⟩]
      rw [e1, e2, lastS_snoc]
      by_cases hm : ts.length % ev = 0
      · exact add_ok_b H H1 hDw hs hg hok.e0 z1 z2 z3 (prev_blank hm) (by rw [hlen]; exact hm) p1 p2 (by omega) hR hf (tbytes_snoc G ev ts s).symm (tstarts_snoc G ev ts s).symm
      · have e3 := lastS_prev (G := G) hm
        rw [e3] at p1 p2 p3 hf
        exact add_ok_l H H1 hDw hs hg hok.e0 z1 z2 z3 (by rw [hlen]; exact hm) p1 p2 (by omega) hR hf (by rw [← e3]; exact (tbytes_snoc G ev ts s).symm) (tstarts_snoc G ev ts s).symm
    · have e1 : addE G ev lim ts s = 13 := by unfold addE; rw [if_pos hR, if_neg hf]
      have e2 : addT G ev lim ts s = ts := by unfold addT; rw [if_neg (fun h => hf h.2)]
      rw [e1, e2]
      by_cases hm : ts.length % ev = 0
      · exact (add_full_b H H1 hDw hs hg hok.e0 z1 z2 z3 (prev_blank hm) (by rw [hlen]; exact hm) p1 p2 (by omega) hR (by omega)).mono fun r w' h => ⟨h.1, _, _, _, _, _, _, h.2⟩
      · have e3 := lastS_prev (G := G) hm
        rw [e3] at p1 p2 p3 hf
        exact (add_full_l H H1 hDw hs hg hok.e0 z1 z2 z3 (by rw [hlen]; exact hm) p1 p2 (by omega) hR (by omega)).mono fun r w' h => ⟨h.1, _, _, _, _, _, _, h.2⟩
  · have e1 : addE G ev lim ts s = 11 := by unfold addE; rw [if_neg hR]
    have e2 : addT G ev lim ts s = ts := by unfold addT; rw [if_neg (fun h => hR h.1)]
    rw [e1, e2]
    by_cases hm : ts.length % ev = 0
    · exact (add_nor_b H H1 hDw hs hg hok.e0 z1 z2 z3 (prev_blank hm) (by rw [hlen]; exact hm) p1 p2 (by omega) hR).mono fun r w' h => ⟨h.1, _, _, _, _, _, _, h.2⟩
    · have e3 := lastS_prev (G := G) hm
      rw [e3] at p1 p2 p3
      exact (add_nor_l H H1 hDw hs hg hok.e0 z1 z2 z3 (by rw [hlen]; exact hm) p1 p2 (by omega) hR).mono fun r w' h => ⟨h.1, _, _, _, _, _, _, h.2⟩

theorem after_b (H : HoldsAll w0 [.obj g 128 [.int .i64 (G : Int), .int .i64 (ev : Int), .int .i64 lim, .slice A bs.length c, .slice B sts.length d, .int .i64 la.kind, .int .i64 la.node, .int .i64 la.phase, .int .i64 la.pos, .int .i64 la.start, .int .i64 la.depth, .int .i64 la.org, .slice C la.caps.length e], .row (.slice A bs.length c) 5 1 bs.length (u8s bs), .row (.slice B sts.length d) 3 1 sts.length (ints sts), .row (.slice C la.caps.length e) 3 1 la.caps.length (ints la.caps)]) (hk : sts[k]? = some (p : Int)) (hsl : sts.length ≤ 16777216) (hG : G ≤ 99) (he0 : 1 ≤ ev) (hb8 : ∀ x ∈ bs, x < 256) (hbl : bs.length ≤ 16777216) (hp : p ≤ bs.length) (hR : t.Right (G : Int)) {bl : Sta} (hbk : bl = Sta.blank (2 * (G + 1))) (hm : k % ev = 0) (hwb : bl.base) (hwg : bl.groups = (G : Int)) (hw2 : bl.caps.length = 2 * (G + 1)) (hsat : Sat bs p (rec18 bl t)) : Calls Try.prog 79 [.pointer (some ⟨g, 0, none⟩), .agg #[.int .i64 u.kind, .int .i64 u.node, .int .i64 u.phase, .int .i64 u.pos, .int .i64 u.start, .int .i64 u.depth, .int .i64 u.org, .slice U u.caps.length q], .int .i64 (k : Int)].toArray w0 (fun r w' => ∃ D e, r = .returned (.tuple #[.agg #[.int .i64 t.kind, .int .i64 t.node, .int .i64 t.phase, .int .i64 t.pos, .int .i64 t.start, .int .i64 t.depth, .int .i64 t.org, .slice D t.caps.length e], .int .i64 0]) ∧ St [] w0 w' [.row (.slice D t.caps.length e) 3 1 t.caps.length (ints t.caps)]) := by
  have HH := H
  have S := St.nil [] w0
  obtain ⟨hg, ha, hb, hc, -⟩ := H
  have hkl : k < sts.length := (List.getElem?_eq_some_iff.1 hk).1
  obtain ⟨bB, oB, rfl, hB⟩ := (Rd.of_row hb).place (by omega)
  have hrd := rdF_fwd (b := bs) (k := p) hwb (by omega) (by rw [hwg]; exact hR) hsat
  refine fn_start Try.func79 rfl 64 rfl rfl [(0, _), (1, _), (2, _)] ⟨rfl, rfl, rfl, trivial⟩ ?_; intro a E
  refine wp_seq ?_
  refine region_plain (n := 3) [(0, .e), (1, .e), (2, .p)] rfl rfl ?_
  refine Run.box (cs := [.int .i64 u.kind, .int .i64 u.node, .int .i64 u.phase, .int .i64 u.pos, .int .i64 u.start, .int .i64 u.depth, .int .i64 u.org, .slice U u.caps.length q]) rfl rfl E S rfl rfl rfl rfl ?_; clear E a S; intro b1 w a E S B_; clear B_
  refine Run.alloc rfl rfl E S rfl rfl z34 rfl ?_; clear E a S; intro b2 w a E S B_; clear B_
  refine Run.assign rfl E rfl rfl rfl ?_; clear E a; intro a E
  refine Run.nil ?_
  refine then_n ?_
  refine wp_seq ?_
  refine wp_seq ?_
  refine region_plain (n := 8) [(0, .p), (1, .p), (2, .p), (3, .p), (4, .p), (5, .e), (6, .p), (7, .p)] rfl rfl ?_
  refine Run.move rfl E rfl rfl rfl ?_; clear E a; intro a E
  refine Run.lss rfl E rfl rfl rfl rfl (decide_eq_false (by omega)) ?_; clear E a; intro a E
  refine Run.move rfl E rfl rfl rfl ?_; clear E a; intro a E
  refine Run.move rfl E rfl rfl rfl ?_; clear E a; intro a E
  refine Run.move rfl E rfl rfl rfl ?_; clear E a; intro a E
  refine Run.call (args := [.pointer (some ⟨g, 0, none⟩)]) rfl rfl E rfl rfl Try.func38 nm38 rfl rfl (tape_len (A := A) (c := c) (B := some ⟨bB, oB, none⟩) (d := d) (C := C) (e := e) (bs := bs) (sts := sts) (la := la) (G := G) (ev := ev) (lim := lim) (HH.bel S.belT)) ?_; rintro e_ w ⟨rfl, B_⟩; refine ⟨_, rfl, fun _ => B_, ?_⟩; clear E a; replace S := S.bel B_; intro a E
  clear B_
  refine Run.geq rfl E rfl rfl rfl rfl (decide_eq_false (by omega)) ?_; clear E a; intro a E
  refine Run.pickF rfl E rfl rfl rfl rfl ?_; clear E a; intro a E
  refine Run.nil ?_
  refine then_n ?_
  refine cond_F E rfl ?_
  refine wp_skip ?_
  refine then_n ?_
  refine wp_seq ?_
  refine wp_seq ?_
  refine region_plain (n := 7) [(0, .p), (1, .p), (2, .p), (3, .p), (4, .l), (5, .p), (6, .p)] rfl rfl ?_
  refine Run.move rfl E rfl rfl rfl ?_; clear E a; intro a E
  refine Run.move rfl E rfl rfl rfl ?_; clear E a; intro a E
  refine Run.nilCheck rfl E rfl rfl rfl ?_; clear E a; intro a E
  refine Run.fieldAddr rfl E rfl rfl rfl fo128_1 (rfl) ?_; clear E a; intro a E
  refine Run.load1 rfl rfl E S rfl rfl rfl one3 (fun _ s => roObj hg s rfl) ?_; clear E a; intro a E
  refine Run.rem rfl E rfl rfl rfl rfl (by omega) (q := ((k % ev : Nat) : Int)) (rem_nn _ _) ?_; clear E a; intro a E
  refine Run.eqi rfl E rfl rfl rfl rfl (decide_eq_true (by rw [hm]; rfl)) ?_; clear E a; intro a E
  refine Run.nil ?_
  refine then_n ?_
  refine cond_T E rfl ?_
  refine region_plain (n := 6) [(0, .p), (1, .p), (2, .p), (3, .l), (4, .e), (5, .l)] rfl rfl ?_
  refine Run.move rfl E rfl rfl rfl ?_; clear E a; intro a E
  refine Run.nilCheck rfl E rfl rfl rfl ?_; clear E a; intro a E
  refine Run.fieldAddr rfl E rfl rfl rfl fo128_0 (rfl) ?_; clear E a; intro a E
  refine Run.load1 rfl rfl E S rfl rfl rfl one3 (fun _ s => roObj hg s rfl) ?_; clear E a; intro a E
  refine Run.call (args := [.int .i64 (G : Int)]) rfl rfl E rfl rfl Try.func78 nm78 rfl rfl (blankS_walk hbk hG) ?_; rintro e_ w ⟨P3, q4, rfl, S_⟩; refine ⟨_, rfl, (fun _ => S_.belT), ?_⟩; clear E a; intro a E
  replace S : St _ _ _ [_, .obj _ _ [_, _, _, _, _, _, _, _], .obj _ _ [_, _, _, _, _, _, _, _]] := St.call (A := []) (R := [_, _]) S S_; clear S_
  refine Run.store (news := [.int .i64 bl.kind, .int .i64 bl.node, .int .i64 bl.phase, .int .i64 bl.pos, .int .i64 bl.start, .int .i64 bl.depth, .int .i64 bl.org, .slice P3 bl.caps.length q4]) (cs' := [_, _, _, _, _, _, _, _]) (hp' := [_, _, _]) 2 rfl E S rfl rfl rfl rfl rfl sz34 rfl rfl rfl rfl ?_; clear S; intro w S
  refine Run.nil ?_
  refine then_n ?_
  refine wp_seq ?_
  refine wp_seq ?_
  refine region_drawS (n := 10) [(0, .p), (3, .p), (4, .p), (5, .p), (1, .t), (2, .p), (6, .t), (7, .p), (8, .p), (9, .p)] [0, 1, 3, 0, 8, 24, 56, 120, 248, 511] S mixed rfl rfl (by kernel_rfl) (fun _ _ _ _ _ h => h) ?_; clear S; intro w S B_; clear B_
  refine Run.fieldAddr rfl E rfl rfl rfl fo34_7 (rfl) ?_; clear E a; intro a E
  refine Run.move rfl E rfl rfl rfl ?_; clear E a; intro a E
  refine Run.nilCheck rfl E rfl rfl rfl ?_; clear E a; intro a E
  refine Run.fieldAddr rfl E rfl rfl rfl fo128_0 (rfl) ?_; clear E a; intro a E
  refine Run.load1 rfl rfl E S rfl rfl rfl one32 (fun _ s => s.objCell 2 7 rfl rfl) ?_; clear E a; intro a E
  refine Run.len rfl E rfl rfl rfl Try.underlying32 ?_; clear E a; intro a E
  refine Run.load1 rfl rfl E S rfl rfl rfl one3 (fun _ s => roObj hg s rfl) ?_; clear E a; intro a E
  refine Run.add rfl E rfl rfl rfl rfl (i64_ok (by omega)) ?_; clear E a; intro a E
  refine Run.mul rfl E rfl rfl rfl rfl (i64_ok (by omega)) ?_; clear E a; intro a E
  refine Run.nei rfl E rfl rfl rfl rfl (decide_eq_false (by omega)) ?_; clear E a; intro a E
  refine Run.nil ?_
  refine then_n ?_
  refine cond_F E rfl ?_
  refine wp_skip ?_
  refine then_n ?_
  refine wp_seq ?_
  refine region_tree (n := 21) (.one 1 .p (.one 2 .p (.one 3 .p (.one 5 .p (.one 6 .p (.one 7 .p (.one 9 .p (.one 0 .t (.one 4 .t (.one 8 .t (.one 10 .p (.one 11 .t (.alt 12 (.one 13 .p (.one 14 .p (.one 15 .p (.one 16 .p (.one 17 .e (.one 18 .l (.one 19 .p (.one 20 .p .done)))))))) (.alt 17 (.one 12 .e (.one 13 .p (.one 14 .p (.one 15 .p (.one 16 .p (.one 18 .l (.one 19 .p (.one 20 .p .done)))))))) .none)))))))))))))) [0, 0, 2, 6, 14, 0, 32, 96, 224, 0, 992, 2016, 4095, 8191, 16383, 16383, 16383, 0, 163839, 458751, 1048575] S mixed rfl rfl (by kernel_rfl) (fun _ _ _ _ _ h => h) ?_; clear S; intro w S B_; clear B_
  refine RunT.one ?_
  refine Run.move rfl E rfl rfl rfl ?_; clear E a; intro a E
  refine RunT.end ?_
  refine RunT.one ?_
  refine Run.nilCheck rfl E rfl rfl rfl ?_; clear E a; intro a E
  refine RunT.end ?_
  refine RunT.one ?_
  refine Run.fieldAddr rfl E rfl rfl rfl fo128_3 (rfl) ?_; clear E a; intro a E
  refine RunT.end ?_
  refine RunT.one ?_
  refine Run.move rfl E rfl rfl rfl ?_; clear E a; intro a E
  refine RunT.end ?_
  refine RunT.one ?_
  refine Run.nilCheck rfl E rfl rfl rfl ?_; clear E a; intro a E
  refine RunT.end ?_
  refine RunT.one ?_
  refine Run.fieldAddr rfl E rfl rfl rfl fo128_4 (rfl) ?_; clear E a; intro a E
  refine RunT.end ?_
  refine RunT.one ?_
  refine Run.move rfl E rfl rfl rfl ?_; clear E a; intro a E
  refine RunT.end ?_
  refine RunT.one ?_
  refine Run.loadN (cs := [.int .i64 bl.kind, .int .i64 bl.node, .int .i64 bl.phase, .int .i64 bl.pos, .int .i64 bl.start, .int .i64 bl.depth, .int .i64 bl.org, .slice P3 bl.caps.length q4]) rfl rfl E S rfl rfl rfl ag34 rfl (fun _ s => objAll s 2 rfl) ?_; clear E a; intro a E
  refine RunT.end ?_
  refine RunT.one ?_
  refine Run.load1 rfl rfl E S rfl rfl rfl one22 (fun _ s => roObj hg s rfl) ?_; clear E a; intro a E
  refine RunT.end ?_
  refine RunT.one ?_
  refine Run.load1 rfl rfl E S rfl rfl rfl one32 (fun _ s => roObj hg s rfl) ?_; clear E a; intro a E
  refine RunT.end ?_
  refine RunT.one ?_
  refine Run.indexAddr rfl E rfl rfl rfl rfl Try.underlying32 sz3 (by omega) (ix_at1 (m' := k) (by omega)) ?_; clear E a; intro a E
  refine RunT.end ?_
  refine RunT.one ?_
  refine Run.load1 rfl rfl E S rfl rfl rfl one3 (fun _ s => rdAt1 hB s (ints_get' hk)) ?_; clear E a; intro a E
  refine RunT.end ?_
  refine RunT.alt ?_ ?_
  · skip
    refine Run.call (args := [.agg #[.int .i64 bl.kind, .int .i64 bl.node, .int .i64 bl.phase, .int .i64 bl.pos, .int .i64 bl.start, .int .i64 bl.depth, .int .i64 bl.org, .slice P3 bl.caps.length q4], .slice A bs.length c, .int .i64 (p : Int)]) rfl rfl E rfl rfl Try.func66 nm66 rfl rfl (read_ok (t := t) (b := bs) ((Rd.of_row ha).bel S.belT) hb8 (by omega) (S.rd 0 rfl) hwb (Int.natCast_nonneg _) (by omega) (base_len hwb) hrd (by rw [hwg]; exact hR)) ?_; rintro e_ w ⟨D5, e6, rfl, S_⟩; refine ⟨_, rfl, (fun _ => S_.belT), ?_⟩; clear E a; intro a E
    replace S : St _ _ _ [_, _, .obj _ _ [_, _, _, _, _, _, _, _], .obj _ _ [_, _, _, _, _, _, _, _]] := St.call (A := []) (R := [_, _, _]) S S_; clear S_
    refine RunT.end ?_
    refine RunT.one ?_
    refine Run.move rfl E rfl rfl rfl ?_; clear E a; intro a E
    refine RunT.end ?_
    refine RunT.one ?_
    refine Run.extract rfl E rfl rfl rfl rfl ?_; clear E a; intro a E
    refine RunT.end ?_
    refine RunT.one ?_
    refine Run.extract rfl E rfl rfl rfl rfl ?_; clear E a; intro a E
    refine RunT.end ?_
    refine RunT.one ?_
    refine Run.extract rfl E rfl rfl rfl rfl ?_; clear E a; intro a E
    refine RunT.end ?_
    refine RunT.one ?_
    refine Run.alloc rfl rfl E S rfl rfl z34 rfl ?_; clear E a S; intro b7 w a E S B_; clear B_
    refine RunT.end ?_
    refine RunT.one ?_
    refine Run.store (news := [.int .i64 t.kind, .int .i64 t.node, .int .i64 t.phase, .int .i64 t.pos, .int .i64 t.start, .int .i64 t.depth, .int .i64 t.org, .slice D5 t.caps.length e6]) (cs' := [_, _, _, _, _, _, _, _]) (hp' := [_, _, _, _, _]) 0 rfl E S rfl rfl rfl rfl rfl sz34 rfl rfl rfl rfl ?_; clear S; intro w S
    refine RunT.end ?_
    refine RunT.one ?_
    refine Run.assign rfl E rfl rfl rfl ?_; clear E a; intro a E
    refine RunT.end ?_
    refine RunT.one ?_
    refine Run.assign rfl E rfl rfl rfl ?_; clear E a; intro a E
    refine RunT.end ?_
    refine RunT.done ?_
    refine then_n ?_
    refine wp_seq ?_
    refine wp_seq ?_
    refine region_plain (n := 2) [(0, .p), (1, .p)] rfl rfl ?_
    refine Run.move rfl E rfl rfl rfl ?_; clear E a; intro a E
    refine Run.nei rfl E rfl rfl rfl rfl (b := false) (by decide) ?_; clear E a; intro a E
    refine Run.nil ?_
    refine then_n ?_
    refine cond_F E rfl ?_
    refine wp_skip ?_
    refine then_n ?_
    refine wp_seq ?_
    refine region_plain (n := 3) [(0, .l), (1, .l), (2, .p)] rfl rfl ?_
    refine Run.loadN (cs := [.int .i64 t.kind, .int .i64 t.node, .int .i64 t.phase, .int .i64 t.pos, .int .i64 t.start, .int .i64 t.depth, .int .i64 t.org, .slice D5 t.caps.length e6]) rfl rfl E S rfl rfl rfl ag34 rfl (fun _ s => objAll s 0 rfl) ?_; clear E a; intro a E
    refine Run.store (news := [.int .i64 t.kind, .int .i64 t.node, .int .i64 t.phase, .int .i64 t.pos, .int .i64 t.start, .int .i64 t.depth, .int .i64 t.org, .slice D5 t.caps.length e6]) (cs' := [_, _, _, _, _, _, _, _]) (hp' := [_, _, _, _, _]) 3 rfl E S rfl rfl rfl rfl rfl sz34 rfl rfl rfl rfl ?_; clear S; intro w S
    refine Run.assign rfl E rfl rfl rfl ?_; clear E a; intro a E
    refine Run.nil ?_
    refine then_n ?_
    refine wp_ret ?_
    refine retN E (vs := [.agg #[.int .i64 t.kind, .int .i64 t.node, .int .i64 t.phase, .int .i64 t.pos, .int .i64 t.start, .int .i64 t.depth, .int .i64 t.org, .slice D5 t.caps.length e6], .int .i64 0]) Try.results79 (.cell (E.slot _ _ rfl) (run_loadVarAgg ag34 rfl (objAll S 3 rfl)) (.tmp (E.slot _ _ rfl) .nil)) rfl ⟨D5, e6, rfl, ?_⟩
    have S : St _ _ _ [_, _, _, _, _] := S.sel [0, 2, 3, 4, 1] _ rfl rfl
    have S := S.drop1.drop1.drop1.drop1
    exact S
  · skip
    refine RunT.alt ?_ ?_
    · skip
      refine Run.alloc rfl rfl E S rfl rfl z34 rfl ?_; clear E a S; intro b8 w a E S B_; clear B_
      refine RunT.end ?_
      refine RunT.one ?_
      refine Run.call (args := [.agg #[.int .i64 bl.kind, .int .i64 bl.node, .int .i64 bl.phase, .int .i64 bl.pos, .int .i64 bl.start, .int .i64 bl.depth, .int .i64 bl.org, .slice P3 bl.caps.length q4], .slice A bs.length c, .int .i64 (p : Int)]) rfl rfl E rfl rfl Try.func66 nm66 rfl rfl (read_ok (t := t) (b := bs) ((Rd.of_row ha).bel S.belT) hb8 (by omega) (S.rd 1 rfl) hwb (Int.natCast_nonneg _) (by omega) (base_len hwb) hrd (by rw [hwg]; exact hR)) ?_; rintro e_ w ⟨D9, e10, rfl, S_⟩; refine ⟨_, rfl, (fun _ => S_.belT), ?_⟩; clear E a; intro a E
      replace S : St _ _ _ [_, .obj _ _ [_, _, _, _, _, _, _, _], _, .obj _ _ [_, _, _, _, _, _, _, _], .obj _ _ [_, _, _, _, _, _, _, _]] := St.call (A := []) (R := [_, _, _, _]) S S_; clear S_
      refine RunT.end ?_
      refine RunT.one ?_
      refine Run.move rfl E rfl rfl rfl ?_; clear E a; intro a E
      refine RunT.end ?_
      refine RunT.one ?_
      refine Run.extract rfl E rfl rfl rfl rfl ?_; clear E a; intro a E
      refine RunT.end ?_
      refine RunT.one ?_
      refine Run.extract rfl E rfl rfl rfl rfl ?_; clear E a; intro a E
      refine RunT.end ?_
      refine RunT.one ?_
      refine Run.extract rfl E rfl rfl rfl rfl ?_; clear E a; intro a E
      refine RunT.end ?_
      refine RunT.one ?_
      refine Run.store (news := [.int .i64 t.kind, .int .i64 t.node, .int .i64 t.phase, .int .i64 t.pos, .int .i64 t.start, .int .i64 t.depth, .int .i64 t.org, .slice D9 t.caps.length e10]) (cs' := [_, _, _, _, _, _, _, _]) (hp' := [_, _, _, _, _]) 1 rfl E S rfl rfl rfl rfl rfl sz34 rfl rfl rfl rfl ?_; clear S; intro w S
      refine RunT.end ?_
      refine RunT.one ?_
      refine Run.assign rfl E rfl rfl rfl ?_; clear E a; intro a E
      refine RunT.end ?_
      refine RunT.one ?_
      refine Run.assign rfl E rfl rfl rfl ?_; clear E a; intro a E
      refine RunT.end ?_
      refine RunT.done ?_
      refine then_n ?_
      refine wp_seq ?_
      refine wp_seq ?_
      refine region_plain (n := 2) [(0, .p), (1, .p)] rfl rfl ?_
      refine Run.move rfl E rfl rfl rfl ?_; clear E a; intro a E
      refine Run.nei rfl E rfl rfl rfl rfl (b := false) (by decide) ?_; clear E a; intro a E
      refine Run.nil ?_
      refine then_n ?_
      refine cond_F E rfl ?_
      refine wp_skip ?_
      refine then_n ?_
      refine wp_seq ?_
      refine region_plain (n := 3) [(0, .l), (1, .l), (2, .p)] rfl rfl ?_
      refine Run.loadN (cs := [.int .i64 t.kind, .int .i64 t.node, .int .i64 t.phase, .int .i64 t.pos, .int .i64 t.start, .int .i64 t.depth, .int .i64 t.org, .slice D9 t.caps.length e10]) rfl rfl E S rfl rfl rfl ag34 rfl (fun _ s => objAll s 1 rfl) ?_; clear E a; intro a E
      refine Run.store (news := [.int .i64 t.kind, .int .i64 t.node, .int .i64 t.phase, .int .i64 t.pos, .int .i64 t.start, .int .i64 t.depth, .int .i64 t.org, .slice D9 t.caps.length e10]) (cs' := [_, _, _, _, _, _, _, _]) (hp' := [_, _, _, _, _]) 3 rfl E S rfl rfl rfl rfl rfl sz34 rfl rfl rfl rfl ?_; clear S; intro w S
      refine Run.assign rfl E rfl rfl rfl ?_; clear E a; intro a E
      refine Run.nil ?_
      refine then_n ?_
      refine wp_ret ?_
      refine retN E (vs := [.agg #[.int .i64 t.kind, .int .i64 t.node, .int .i64 t.phase, .int .i64 t.pos, .int .i64 t.start, .int .i64 t.depth, .int .i64 t.org, .slice D9 t.caps.length e10], .int .i64 0]) Try.results79 (.cell (E.slot _ _ rfl) (run_loadVarAgg ag34 rfl (objAll S 3 rfl)) (.tmp (E.slot _ _ rfl) .nil)) rfl ⟨D9, e10, rfl, ?_⟩
      have S : St _ _ _ [_, _, _, _, _] := S.sel [1, 2, 3, 4, 0] _ rfl rfl
      have S := S.drop1.drop1.drop1.drop1
      exact S
    · skip
      exact RunT.none

theorem after_l (H : HoldsAll w0 [.obj g 128 [.int .i64 (G : Int), .int .i64 (ev : Int), .int .i64 lim, .slice A bs.length c, .slice B sts.length d, .int .i64 la.kind, .int .i64 la.node, .int .i64 la.phase, .int .i64 la.pos, .int .i64 la.start, .int .i64 la.depth, .int .i64 la.org, .slice C la.caps.length e], .row (.slice A bs.length c) 5 1 bs.length (u8s bs), .row (.slice B sts.length d) 3 1 sts.length (ints sts), .row (.slice C la.caps.length e) 3 1 la.caps.length (ints la.caps)]) (hk : sts[k]? = some (p : Int)) (hsl : sts.length ≤ 16777216) (hG : G ≤ 99) (he0 : 1 ≤ ev) (hb8 : ∀ x ∈ bs, x < 256) (hbl : bs.length ≤ 16777216) (hp : p ≤ bs.length) (hR : t.Right (G : Int)) (HU : Rd w0 U u.caps.length 1 (ints u.caps)) (hm : k % ev ≠ 0) (hwb : u.base) (hwg : u.groups = (G : Int)) (hw2 : u.caps.length = 2 * (G + 1)) (hsat : Sat bs p (rec18 u t)) : Calls Try.prog 79 [.pointer (some ⟨g, 0, none⟩), .agg #[.int .i64 u.kind, .int .i64 u.node, .int .i64 u.phase, .int .i64 u.pos, .int .i64 u.start, .int .i64 u.depth, .int .i64 u.org, .slice U u.caps.length q], .int .i64 (k : Int)].toArray w0 (fun r w' => ∃ D e, r = .returned (.tuple #[.agg #[.int .i64 t.kind, .int .i64 t.node, .int .i64 t.phase, .int .i64 t.pos, .int .i64 t.start, .int .i64 t.depth, .int .i64 t.org, .slice D t.caps.length e], .int .i64 0]) ∧ St [] w0 w' [.row (.slice D t.caps.length e) 3 1 t.caps.length (ints t.caps)]) := by
  have HH := H
  have S := St.nil [] w0
  obtain ⟨hg, ha, hb, hc, -⟩ := H
  have hkl : k < sts.length := (List.getElem?_eq_some_iff.1 hk).1
  obtain ⟨bB, oB, rfl, hB⟩ := (Rd.of_row hb).place (by omega)
  have hrd := rdF_fwd (b := bs) (k := p) hwb (by omega) (by rw [hwg]; exact hR) hsat
  refine fn_start Try.func79 rfl 64 rfl rfl [(0, _), (1, _), (2, _)] ⟨rfl, rfl, rfl, trivial⟩ ?_; intro a E
  refine wp_seq ?_
  refine region_plain (n := 3) [(0, .e), (1, .e), (2, .p)] rfl rfl ?_
  refine Run.box (cs := [.int .i64 u.kind, .int .i64 u.node, .int .i64 u.phase, .int .i64 u.pos, .int .i64 u.start, .int .i64 u.depth, .int .i64 u.org, .slice U u.caps.length q]) rfl rfl E S rfl rfl rfl rfl ?_; clear E a S; intro b1 w a E S B_; clear B_
  refine Run.alloc rfl rfl E S rfl rfl z34 rfl ?_; clear E a S; intro b2 w a E S B_; clear B_
  refine Run.assign rfl E rfl rfl rfl ?_; clear E a; intro a E
  refine Run.nil ?_
  refine then_n ?_
  refine wp_seq ?_
  refine wp_seq ?_
  refine region_plain (n := 8) [(0, .p), (1, .p), (2, .p), (3, .p), (4, .p), (5, .e), (6, .p), (7, .p)] rfl rfl ?_
  refine Run.move rfl E rfl rfl rfl ?_; clear E a; intro a E
  refine Run.lss rfl E rfl rfl rfl rfl (decide_eq_false (by omega)) ?_; clear E a; intro a E
  refine Run.move rfl E rfl rfl rfl ?_; clear E a; intro a E
  refine Run.move rfl E rfl rfl rfl ?_; clear E a; intro a E
  refine Run.move rfl E rfl rfl rfl ?_; clear E a; intro a E
  refine Run.call (args := [.pointer (some ⟨g, 0, none⟩)]) rfl rfl E rfl rfl Try.func38 nm38 rfl rfl (tape_len (A := A) (c := c) (B := some ⟨bB, oB, none⟩) (d := d) (C := C) (e := e) (bs := bs) (sts := sts) (la := la) (G := G) (ev := ev) (lim := lim) (HH.bel S.belT)) ?_; rintro e_ w ⟨rfl, B_⟩; refine ⟨_, rfl, fun _ => B_, ?_⟩; clear E a; replace S := S.bel B_; intro a E
  clear B_
  refine Run.geq rfl E rfl rfl rfl rfl (decide_eq_false (by omega)) ?_; clear E a; intro a E
  refine Run.pickF rfl E rfl rfl rfl rfl ?_; clear E a; intro a E
  refine Run.nil ?_
  refine then_n ?_
  refine cond_F E rfl ?_
  refine wp_skip ?_
  refine then_n ?_
  refine wp_seq ?_
  refine wp_seq ?_
  refine region_plain (n := 7) [(0, .p), (1, .p), (2, .p), (3, .p), (4, .l), (5, .p), (6, .p)] rfl rfl ?_
  refine Run.move rfl E rfl rfl rfl ?_; clear E a; intro a E
  refine Run.move rfl E rfl rfl rfl ?_; clear E a; intro a E
  refine Run.nilCheck rfl E rfl rfl rfl ?_; clear E a; intro a E
  refine Run.fieldAddr rfl E rfl rfl rfl fo128_1 (rfl) ?_; clear E a; intro a E
  refine Run.load1 rfl rfl E S rfl rfl rfl one3 (fun _ s => roObj hg s rfl) ?_; clear E a; intro a E
  refine Run.rem rfl E rfl rfl rfl rfl (by omega) (q := ((k % ev : Nat) : Int)) (rem_nn _ _) ?_; clear E a; intro a E
  refine Run.eqi rfl E rfl rfl rfl rfl (decide_eq_false (nat0 hm)) ?_; clear E a; intro a E
  refine Run.nil ?_
  refine then_n ?_
  refine cond_F E rfl ?_
  refine wp_skip ?_
  refine then_n ?_
  refine wp_seq ?_
  refine wp_seq ?_
  refine region_drawS (n := 10) [(0, .p), (3, .p), (4, .p), (5, .p), (1, .t), (2, .p), (6, .t), (7, .p), (8, .p), (9, .p)] [0, 1, 3, 0, 8, 24, 56, 120, 248, 511] S mixed rfl rfl (by kernel_rfl) (fun _ _ _ _ _ h => h) ?_; clear S; intro w S B_; clear B_
  refine Run.fieldAddr rfl E rfl rfl rfl fo34_7 (rfl) ?_; clear E a; intro a E
  refine Run.move rfl E rfl rfl rfl ?_; clear E a; intro a E
  refine Run.nilCheck rfl E rfl rfl rfl ?_; clear E a; intro a E
  refine Run.fieldAddr rfl E rfl rfl rfl fo128_0 (rfl) ?_; clear E a; intro a E
  refine Run.load1 rfl rfl E S rfl rfl rfl one32 (fun _ s => s.objCell 1 7 rfl rfl) ?_; clear E a; intro a E
  refine Run.len rfl E rfl rfl rfl Try.underlying32 ?_; clear E a; intro a E
  refine Run.load1 rfl rfl E S rfl rfl rfl one3 (fun _ s => roObj hg s rfl) ?_; clear E a; intro a E
  refine Run.add rfl E rfl rfl rfl rfl (i64_ok (by omega)) ?_; clear E a; intro a E
  refine Run.mul rfl E rfl rfl rfl rfl (i64_ok (by omega)) ?_; clear E a; intro a E
  refine Run.nei rfl E rfl rfl rfl rfl (decide_eq_false (by omega)) ?_; clear E a; intro a E
  refine Run.nil ?_
  refine then_n ?_
  refine cond_F E rfl ?_
  refine wp_skip ?_
  refine then_n ?_
  refine wp_seq ?_
  refine region_tree (n := 21) (.one 1 .p (.one 2 .p (.one 3 .p (.one 5 .p (.one 6 .p (.one 7 .p (.one 9 .p (.one 0 .t (.one 4 .t (.one 8 .t (.one 10 .p (.one 11 .t (.alt 12 (.one 13 .p (.one 14 .p (.one 15 .p (.one 16 .p (.one 17 .e (.one 18 .l (.one 19 .p (.one 20 .p .done)))))))) (.alt 17 (.one 12 .e (.one 13 .p (.one 14 .p (.one 15 .p (.one 16 .p (.one 18 .l (.one 19 .p (.one 20 .p .done)))))))) .none)))))))))))))) [0, 0, 2, 6, 14, 0, 32, 96, 224, 0, 992, 2016, 4095, 8191, 16383, 16383, 16383, 0, 163839, 458751, 1048575] S mixed rfl rfl (by kernel_rfl) (fun _ _ _ _ _ h => h) ?_; clear S; intro w S B_; clear B_
  refine RunT.one ?_
  refine Run.move rfl E rfl rfl rfl ?_; clear E a; intro a E
  refine RunT.end ?_
  refine RunT.one ?_
  refine Run.nilCheck rfl E rfl rfl rfl ?_; clear E a; intro a E
  refine RunT.end ?_
  refine RunT.one ?_
  refine Run.fieldAddr rfl E rfl rfl rfl fo128_3 (rfl) ?_; clear E a; intro a E
  refine RunT.end ?_
  refine RunT.one ?_
  refine Run.move rfl E rfl rfl rfl ?_; clear E a; intro a E
  refine RunT.end ?_
  refine RunT.one ?_
  refine Run.nilCheck rfl E rfl rfl rfl ?_; clear E a; intro a E
  refine RunT.end ?_
  refine RunT.one ?_
  refine Run.fieldAddr rfl E rfl rfl rfl fo128_4 (rfl) ?_; clear E a; intro a E
  refine RunT.end ?_
  refine RunT.one ?_
  refine Run.move rfl E rfl rfl rfl ?_; clear E a; intro a E
  refine RunT.end ?_
  refine RunT.one ?_
  refine Run.loadN (cs := [.int .i64 u.kind, .int .i64 u.node, .int .i64 u.phase, .int .i64 u.pos, .int .i64 u.start, .int .i64 u.depth, .int .i64 u.org, .slice U u.caps.length q]) rfl rfl E S rfl rfl rfl ag34 rfl (fun _ s => objAll s 1 rfl) ?_; clear E a; intro a E
  refine RunT.end ?_
  refine RunT.one ?_
  refine Run.load1 rfl rfl E S rfl rfl rfl one22 (fun _ s => roObj hg s rfl) ?_; clear E a; intro a E
  refine RunT.end ?_
  refine RunT.one ?_
  refine Run.load1 rfl rfl E S rfl rfl rfl one32 (fun _ s => roObj hg s rfl) ?_; clear E a; intro a E
  refine RunT.end ?_
  refine RunT.one ?_
  refine Run.indexAddr rfl E rfl rfl rfl rfl Try.underlying32 sz3 (by omega) (ix_at1 (m' := k) (by omega)) ?_; clear E a; intro a E
  refine RunT.end ?_
  refine RunT.one ?_
  refine Run.load1 rfl rfl E S rfl rfl rfl one3 (fun _ s => rdAt1 hB s (ints_get' hk)) ?_; clear E a; intro a E
  refine RunT.end ?_
  refine RunT.alt ?_ ?_
  · skip
    refine Run.call (args := [.agg #[.int .i64 u.kind, .int .i64 u.node, .int .i64 u.phase, .int .i64 u.pos, .int .i64 u.start, .int .i64 u.depth, .int .i64 u.org, .slice U u.caps.length q], .slice A bs.length c, .int .i64 (p : Int)]) rfl rfl E rfl rfl Try.func66 nm66 rfl rfl (read_ok (t := t) (b := bs) ((Rd.of_row ha).bel S.belT) hb8 (by omega) (HU.bel S.belT) hwb (Int.natCast_nonneg _) (by omega) (base_len hwb) hrd (by rw [hwg]; exact hR)) ?_; rintro e_ w ⟨D3, e4, rfl, S_⟩; refine ⟨_, rfl, (fun _ => S_.belT), ?_⟩; clear E a; intro a E
    replace S : St _ _ _ [_, .obj _ _ [_, _, _, _, _, _, _, _], .obj _ _ [_, _, _, _, _, _, _, _]] := St.call (A := []) (R := [_, _]) S S_; clear S_
    refine RunT.end ?_
    refine RunT.one ?_
    refine Run.move rfl E rfl rfl rfl ?_; clear E a; intro a E
    refine RunT.end ?_
    refine RunT.one ?_
    refine Run.extract rfl E rfl rfl rfl rfl ?_; clear E a; intro a E
    refine RunT.end ?_
    refine RunT.one ?_
    refine Run.extract rfl E rfl rfl rfl rfl ?_; clear E a; intro a E
    refine RunT.end ?_
    refine RunT.one ?_
    refine Run.extract rfl E rfl rfl rfl rfl ?_; clear E a; intro a E
    refine RunT.end ?_
    refine RunT.one ?_
    refine Run.alloc rfl rfl E S rfl rfl z34 rfl ?_; clear E a S; intro b5 w a E S B_; clear B_
    refine RunT.end ?_
    refine RunT.one ?_
    refine Run.store (news := [.int .i64 t.kind, .int .i64 t.node, .int .i64 t.phase, .int .i64 t.pos, .int .i64 t.start, .int .i64 t.depth, .int .i64 t.org, .slice D3 t.caps.length e4]) (cs' := [_, _, _, _, _, _, _, _]) (hp' := [_, _, _, _]) 0 rfl E S rfl rfl rfl rfl rfl sz34 rfl rfl rfl rfl ?_; clear S; intro w S
    refine RunT.end ?_
    refine RunT.one ?_
    refine Run.assign rfl E rfl rfl rfl ?_; clear E a; intro a E
    refine RunT.end ?_
    refine RunT.one ?_
    refine Run.assign rfl E rfl rfl rfl ?_; clear E a; intro a E
    refine RunT.end ?_
    refine RunT.done ?_
    refine then_n ?_
    refine wp_seq ?_
    refine wp_seq ?_
    refine region_plain (n := 2) [(0, .p), (1, .p)] rfl rfl ?_
    refine Run.move rfl E rfl rfl rfl ?_; clear E a; intro a E
    refine Run.nei rfl E rfl rfl rfl rfl (b := false) (by decide) ?_; clear E a; intro a E
    refine Run.nil ?_
    refine then_n ?_
    refine cond_F E rfl ?_
    refine wp_skip ?_
    refine then_n ?_
    refine wp_seq ?_
    refine region_plain (n := 3) [(0, .l), (1, .l), (2, .p)] rfl rfl ?_
    refine Run.loadN (cs := [.int .i64 t.kind, .int .i64 t.node, .int .i64 t.phase, .int .i64 t.pos, .int .i64 t.start, .int .i64 t.depth, .int .i64 t.org, .slice D3 t.caps.length e4]) rfl rfl E S rfl rfl rfl ag34 rfl (fun _ s => objAll s 0 rfl) ?_; clear E a; intro a E
    refine Run.store (news := [.int .i64 t.kind, .int .i64 t.node, .int .i64 t.phase, .int .i64 t.pos, .int .i64 t.start, .int .i64 t.depth, .int .i64 t.org, .slice D3 t.caps.length e4]) (cs' := [_, _, _, _, _, _, _, _]) (hp' := [_, _, _, _]) 2 rfl E S rfl rfl rfl rfl rfl sz34 rfl rfl rfl rfl ?_; clear S; intro w S
    refine Run.assign rfl E rfl rfl rfl ?_; clear E a; intro a E
    refine Run.nil ?_
    refine then_n ?_
    refine wp_ret ?_
    refine retN E (vs := [.agg #[.int .i64 t.kind, .int .i64 t.node, .int .i64 t.phase, .int .i64 t.pos, .int .i64 t.start, .int .i64 t.depth, .int .i64 t.org, .slice D3 t.caps.length e4], .int .i64 0]) Try.results79 (.cell (E.slot _ _ rfl) (run_loadVarAgg ag34 rfl (objAll S 2 rfl)) (.tmp (E.slot _ _ rfl) .nil)) rfl ⟨D3, e4, rfl, ?_⟩
    have S : St _ _ _ [_, _, _, _] := S.sel [0, 2, 3, 1] _ rfl rfl
    have S := S.drop1.drop1.drop1
    exact S
  · skip
    refine RunT.alt ?_ ?_
    · skip
      refine Run.alloc rfl rfl E S rfl rfl z34 rfl ?_; clear E a S; intro b6 w a E S B_; clear B_
      refine RunT.end ?_
      refine RunT.one ?_
      refine Run.call (args := [.agg #[.int .i64 u.kind, .int .i64 u.node, .int .i64 u.phase, .int .i64 u.pos, .int .i64 u.start, .int .i64 u.depth, .int .i64 u.org, .slice U u.caps.length q], .slice A bs.length c, .int .i64 (p : Int)]) rfl rfl E rfl rfl Try.func66 nm66 rfl rfl (read_ok (t := t) (b := bs) ((Rd.of_row ha).bel S.belT) hb8 (by omega) (HU.bel S.belT) hwb (Int.natCast_nonneg _) (by omega) (base_len hwb) hrd (by rw [hwg]; exact hR)) ?_; rintro e_ w ⟨D7, e8, rfl, S_⟩; refine ⟨_, rfl, (fun _ => S_.belT), ?_⟩; clear E a; intro a E
      replace S : St _ _ _ [_, .obj _ _ [_, _, _, _, _, _, _, _], .obj _ _ [_, _, _, _, _, _, _, _], .obj _ _ [_, _, _, _, _, _, _, _]] := St.call (A := []) (R := [_, _, _]) S S_; clear S_
      refine RunT.end ?_
      refine RunT.one ?_
      refine Run.move rfl E rfl rfl rfl ?_; clear E a; intro a E
      refine RunT.end ?_
      refine RunT.one ?_
      refine Run.extract rfl E rfl rfl rfl rfl ?_; clear E a; intro a E
      refine RunT.end ?_
      refine RunT.one ?_
      refine Run.extract rfl E rfl rfl rfl rfl ?_; clear E a; intro a E
      refine RunT.end ?_
      refine RunT.one ?_
      refine Run.extract rfl E rfl rfl rfl rfl ?_; clear E a; intro a E
      refine RunT.end ?_
      refine RunT.one ?_
      refine Run.store (news := [.int .i64 t.kind, .int .i64 t.node, .int .i64 t.phase, .int .i64 t.pos, .int .i64 t.start, .int .i64 t.depth, .int .i64 t.org, .slice D7 t.caps.length e8]) (cs' := [_, _, _, _, _, _, _, _]) (hp' := [_, _, _, _]) 1 rfl E S rfl rfl rfl rfl rfl sz34 rfl rfl rfl rfl ?_; clear S; intro w S
      refine RunT.end ?_
      refine RunT.one ?_
      refine Run.assign rfl E rfl rfl rfl ?_; clear E a; intro a E
      refine RunT.end ?_
      refine RunT.one ?_
      refine Run.assign rfl E rfl rfl rfl ?_; clear E a; intro a E
      refine RunT.end ?_
      refine RunT.done ?_
      refine then_n ?_
      refine wp_seq ?_
      refine wp_seq ?_
      refine region_plain (n := 2) [(0, .p), (1, .p)] rfl rfl ?_
      refine Run.move rfl E rfl rfl rfl ?_; clear E a; intro a E
      refine Run.nei rfl E rfl rfl rfl rfl (b := false) (by decide) ?_; clear E a; intro a E
      refine Run.nil ?_
      refine then_n ?_
      refine cond_F E rfl ?_
      refine wp_skip ?_
      refine then_n ?_
      refine wp_seq ?_
      refine region_plain (n := 3) [(0, .l), (1, .l), (2, .p)] rfl rfl ?_
      refine Run.loadN (cs := [.int .i64 t.kind, .int .i64 t.node, .int .i64 t.phase, .int .i64 t.pos, .int .i64 t.start, .int .i64 t.depth, .int .i64 t.org, .slice D7 t.caps.length e8]) rfl rfl E S rfl rfl rfl ag34 rfl (fun _ s => objAll s 1 rfl) ?_; clear E a; intro a E
      refine Run.store (news := [.int .i64 t.kind, .int .i64 t.node, .int .i64 t.phase, .int .i64 t.pos, .int .i64 t.start, .int .i64 t.depth, .int .i64 t.org, .slice D7 t.caps.length e8]) (cs' := [_, _, _, _, _, _, _, _]) (hp' := [_, _, _, _]) 2 rfl E S rfl rfl rfl rfl rfl sz34 rfl rfl rfl rfl ?_; clear S; intro w S
      refine Run.assign rfl E rfl rfl rfl ?_; clear E a; intro a E
      refine Run.nil ?_
      refine then_n ?_
      refine wp_ret ?_
      refine retN E (vs := [.agg #[.int .i64 t.kind, .int .i64 t.node, .int .i64 t.phase, .int .i64 t.pos, .int .i64 t.start, .int .i64 t.depth, .int .i64 t.org, .slice D7 t.caps.length e8], .int .i64 0]) Try.results79 (.cell (E.slot _ _ rfl) (run_loadVarAgg ag34 rfl (objAll S 2 rfl)) (.tmp (E.slot _ _ rfl) .nil)) rfl ⟨D7, e8, rfl, ?_⟩
      have S : St _ _ _ [_, _, _, _] := S.sel [1, 2, 3, 0] _ rfl rfl
      have S := S.drop1.drop1.drop1
      exact S
    · skip
      exact RunT.none

theorem tafter_walk (H : HoldsAll w0 [.obj g 128 [.int .i64 (G : Int), .int .i64 (ev : Int), .int .i64 lim, .slice A ((tbytes G ev ts).length) c, .slice B ((tstarts G ev ts).length) d, .int .i64 ((lastS ts).kind), .int .i64 ((lastS ts).node), .int .i64 ((lastS ts).phase), .int .i64 ((lastS ts).pos), .int .i64 ((lastS ts).start), .int .i64 ((lastS ts).depth), .int .i64 ((lastS ts).org), .slice C ((lastS ts).caps.length) e], .row (.slice A ((tbytes G ev ts).length) c) 5 1 ((tbytes G ev ts).length) (u8s (tbytes G ev ts)), .row (.slice B ((tstarts G ev ts).length) d) 3 1 ((tstarts G ev ts).length) (ints (tstarts G ev ts)), .row (.slice C ((lastS ts).caps.length) e) 3 1 ((lastS ts).caps.length) (ints (lastS ts).caps)]) (hok : TapeOK G ev ts) (hlim : ((tbytes G ev ts).length : Int) ≤ lim) (hl1 : lim ≤ 16777216) (ht : ts[k]? = some t) (hu : k % ev = 0 ∨ (u = prevS G ev ts k ∧ Rd w0 U u.caps.length 1 (ints u.caps))) : Calls Try.prog 79 [.pointer (some ⟨g, 0, none⟩), .agg #[.int .i64 u.kind, .int .i64 u.node, .int .i64 u.phase, .int .i64 u.pos, .int .i64 u.start, .int .i64 u.depth, .int .i64 u.org, .slice U u.caps.length q], .int .i64 (k : Int)].toArray w0 (fun r w' => ∃ D e, r = .returned (.tuple #[.agg #[.int .i64 t.kind, .int .i64 t.node, .int .i64 t.phase, .int .i64 t.pos, .int .i64 t.start, .int .i64 t.depth, .int .i64 t.org, .slice D t.caps.length e], .int .i64 0]) ∧ St [] w0 w' [.row (.slice D t.caps.length e) 3 1 t.caps.length (ints t.caps)]) := by
  obtain ⟨z1, z2, z3⟩ := sat_le hok hlim hl1
  have hkt := (List.getElem?_eq_some_iff.1 ht).1
  obtain ⟨p1, p2, p3⟩ := hok.prev (Nat.le_of_lt hkt)
  have hR := hok.right t (List.mem_of_getElem? ht)
  have hsat := recs_sat (G := G) (ev := ev) ht
  by_cases hm : k % ev = 0
  · exact after_b H (tstarts_get hkt) z2 hok.g hok.e0 (tbytes_byte G ev ts) z1 (recs_le (Nat.le_of_lt hkt)) hR (prev_blank hm) hm p1 p2 p3 hsat
  · rcases hu with h | ⟨h, HU⟩
    · exact absurd h hm
    · rw [← h] at p1 p2 p3 hsat
      exact after_l H (tstarts_get hkt) z2 hok.g hok.e0 (tbytes_byte G ev ts) z1 (recs_le (Nat.le_of_lt hkt)) hR HU hm p1 p2 p3 hsat

theorem tblock_low {k0 : Int} (H : HoldsAll w0 [.obj g 128 [.int .i64 (G : Int), .int .i64 (ev : Int), .int .i64 lim, .slice A ((tbytes G ev ts).length) c, .slice B ((tstarts G ev ts).length) d, .int .i64 ((lastS ts).kind), .int .i64 ((lastS ts).node), .int .i64 ((lastS ts).phase), .int .i64 ((lastS ts).pos), .int .i64 ((lastS ts).start), .int .i64 ((lastS ts).depth), .int .i64 ((lastS ts).org), .slice C ((lastS ts).caps.length) e], .row (.slice A ((tbytes G ev ts).length) c) 5 1 ((tbytes G ev ts).length) (u8s (tbytes G ev ts)), .row (.slice B ((tstarts G ev ts).length) d) 3 1 ((tstarts G ev ts).length) (ints (tstarts G ev ts)), .row (.slice C ((lastS ts).caps.length) e) 3 1 ((lastS ts).caps.length) (ints (lastS ts).caps)]) (hok : TapeOK G ev ts) (hlim : ((tbytes G ev ts).length : Int) ≤ lim) (hl1 : lim ≤ 16777216) (h : k0 < 0) : Calls Try.prog 71 [.pointer (some ⟨g, 0, none⟩), .int .i64 k0].toArray w0 (fun r w' => r = .returned (.tuple #[.slice none 0 0, .int .i64 12]) ∧ Bel w0 w') := by
  have HH := H
  have S := St.nil [] w0
  obtain ⟨hg, ha, hb, hc, -⟩ := H
  refine fn_start Try.func71 rfl 42 rfl rfl [(0, _), (1, _)] ⟨rfl, rfl, trivial⟩ ?_; intro a E
  refine wp_seq ?_
  refine region_plain (n := 2) [(0, .p), (1, .p)] rfl rfl ?_
  refine Run.assign rfl E rfl rfl rfl ?_; clear E a; intro a E
  refine Run.assign rfl E rfl rfl rfl ?_; clear E a; intro a E
  refine Run.nil ?_
  refine then_n ?_
  refine wp_seq ?_
  refine wp_seq ?_
  refine region_plain (n := 8) [(0, .p), (1, .p), (2, .p), (3, .p), (4, .p), (5, .e), (6, .p), (7, .p)] rfl rfl ?_
  refine Run.move rfl E rfl rfl rfl ?_; clear E a; intro a E
  refine Run.lss rfl E rfl rfl rfl rfl (decide_eq_true (by omega)) ?_; clear E a; intro a E
  refine Run.move rfl E rfl rfl rfl ?_; clear E a; intro a E
  refine Run.off rfl E rfl rfl ?_; clear E a; intro a E
  refine Run.off rfl E rfl rfl ?_; clear E a; intro a E
  refine Run.off rfl E rfl rfl ?_; clear E a; intro a E
  refine Run.off rfl E rfl rfl ?_; clear E a; intro a E
  refine Run.pickT rfl E rfl rfl rfl rfl ?_; clear E a; intro a E
  refine Run.nil ?_
  refine then_n ?_
  refine cond_T E rfl ?_
  refine wp_seq ?_
  refine region_plain (n := 2) [(0, .p), (1, .p)] rfl rfl ?_
  refine Run.assign rfl E rfl rfl rfl ?_; clear E a; intro a E
  refine Run.assign rfl E rfl rfl rfl ?_; clear E a; intro a E
  refine Run.nil ?_
  refine then_n ?_
  refine wp_ret ?_
  refine then_r ?_
  exact ret2 E Try.results71 rfl rfl ⟨rfl, S.belT⟩

theorem tblock_high {k0 : Int} (H : HoldsAll w0 [.obj g 128 [.int .i64 (G : Int), .int .i64 (ev : Int), .int .i64 lim, .slice A ((tbytes G ev ts).length) c, .slice B ((tstarts G ev ts).length) d, .int .i64 ((lastS ts).kind), .int .i64 ((lastS ts).node), .int .i64 ((lastS ts).phase), .int .i64 ((lastS ts).pos), .int .i64 ((lastS ts).start), .int .i64 ((lastS ts).depth), .int .i64 ((lastS ts).org), .slice C ((lastS ts).caps.length) e], .row (.slice A ((tbytes G ev ts).length) c) 5 1 ((tbytes G ev ts).length) (u8s (tbytes G ev ts)), .row (.slice B ((tstarts G ev ts).length) d) 3 1 ((tstarts G ev ts).length) (ints (tstarts G ev ts)), .row (.slice C ((lastS ts).caps.length) e) 3 1 ((lastS ts).caps.length) (ints (lastS ts).caps)]) (hok : TapeOK G ev ts) (hlim : ((tbytes G ev ts).length : Int) ≤ lim) (hl1 : lim ≤ 16777216) (h0 : 0 ≤ k0) (h : (ts.length : Int) ≤ k0) : Calls Try.prog 71 [.pointer (some ⟨g, 0, none⟩), .int .i64 k0].toArray w0 (fun r w' => r = .returned (.tuple #[.slice none 0 0, .int .i64 12]) ∧ Bel w0 w') := by
  have HH := H
  have S := St.nil [] w0
  obtain ⟨hg, ha, hb, hc, -⟩ := H
  refine fn_start Try.func71 rfl 42 rfl rfl [(0, _), (1, _)] ⟨rfl, rfl, trivial⟩ ?_; intro a E
  refine wp_seq ?_
  refine region_plain (n := 2) [(0, .p), (1, .p)] rfl rfl ?_
  refine Run.assign rfl E rfl rfl rfl ?_; clear E a; intro a E
  refine Run.assign rfl E rfl rfl rfl ?_; clear E a; intro a E
  refine Run.nil ?_
  refine then_n ?_
  refine wp_seq ?_
  refine wp_seq ?_
  refine region_plain (n := 8) [(0, .p), (1, .p), (2, .p), (3, .p), (4, .p), (5, .e), (6, .p), (7, .p)] rfl rfl ?_
  refine Run.move rfl E rfl rfl rfl ?_; clear E a; intro a E
  refine Run.lss rfl E rfl rfl rfl rfl (decide_eq_false (by omega)) ?_; clear E a; intro a E
  refine Run.move rfl E rfl rfl rfl ?_; clear E a; intro a E
  refine Run.move rfl E rfl rfl rfl ?_; clear E a; intro a E
  refine Run.move rfl E rfl rfl rfl ?_; clear E a; intro a E
  refine Run.call (args := [.pointer (some ⟨g, 0, none⟩)]) rfl rfl E rfl rfl Try.func38 nm38 rfl rfl (tape_len (A := A) (c := c) (B := B) (d := d) (C := C) (e := e) (bs := tbytes G ev ts) (sts := tstarts G ev ts) (la := lastS ts) (G := G) (ev := ev) (lim := lim) (HH.bel S.belT)) ?_; rintro e_ w ⟨rfl, B_⟩; refine ⟨_, rfl, fun _ => B_, ?_⟩; clear E a; replace S := S.bel B_; intro a E
  clear B_
  refine Run.geq rfl E rfl rfl rfl rfl (decide_eq_true (by rw [tstarts_len]; omega)) ?_; clear E a; intro a E
  refine Run.pickF rfl E rfl rfl rfl rfl ?_; clear E a; intro a E
  refine Run.nil ?_
  refine then_n ?_
  refine cond_T E rfl ?_
  refine wp_seq ?_
  refine region_plain (n := 2) [(0, .p), (1, .p)] rfl rfl ?_
  refine Run.assign rfl E rfl rfl rfl ?_; clear E a; intro a E
  refine Run.assign rfl E rfl rfl rfl ?_; clear E a; intro a E
  refine Run.nil ?_
  refine then_n ?_
  refine wp_ret ?_
  refine then_r ?_
  exact ret2 E Try.results71 rfl rfl ⟨rfl, S.belT⟩

theorem tblock_ok (H : HoldsAll w0 [.obj g 128 [.int .i64 (G : Int), .int .i64 (ev : Int), .int .i64 lim, .slice A ((tbytes G ev ts).length) c, .slice B ((tstarts G ev ts).length) d, .int .i64 ((lastS ts).kind), .int .i64 ((lastS ts).node), .int .i64 ((lastS ts).phase), .int .i64 ((lastS ts).pos), .int .i64 ((lastS ts).start), .int .i64 ((lastS ts).depth), .int .i64 ((lastS ts).org), .slice C ((lastS ts).caps.length) e], .row (.slice A ((tbytes G ev ts).length) c) 5 1 ((tbytes G ev ts).length) (u8s (tbytes G ev ts)), .row (.slice B ((tstarts G ev ts).length) d) 3 1 ((tstarts G ev ts).length) (ints (tstarts G ev ts)), .row (.slice C ((lastS ts).caps.length) e) 3 1 ((lastS ts).caps.length) (ints (lastS ts).caps)]) (hok : TapeOK G ev ts) (hlim : ((tbytes G ev ts).length : Int) ≤ lim) (hl1 : lim ≤ 16777216) (hkt : k < ts.length) : Calls Try.prog 71 [.pointer (some ⟨g, 0, none⟩), .int .i64 (k : Int)].toArray w0 (fun r w' => ∃ O cO, ∃ l : List StaM, l.map StaM.s = (ts.drop (k - k % ev)).take (k % ev + 1) ∧ r = .returned (.tuple #[.slice O l.length cO, .int .i64 0]) ∧ St [] w0 w' [.row (.slice O l.length cO) 34 8 l.length (stams l), .rows (l.map StaM.irow)]) := by
  have HH := H
  have S := St.nil [] w0
  obtain ⟨hg, ha, hb, hc, -⟩ := H
  obtain ⟨m, hm⟩ : ∃ m, m = k % ev := ⟨_, rfl⟩
  obtain ⟨k0, hk0⟩ : ∃ k0, k0 = k - m := ⟨_, rfl⟩
  have hmk : m ≤ k := by rw [hm]; exact Nat.mod_le _ _
  have hme : m < ev := by rw [hm]; exact Nat.mod_lt _ hok.e0
  have hev := hok.e1
  obtain ⟨z1, z2, z3⟩ := sat_le hok hlim hl1
  rw [tstarts_len] at z2
  have hgg := hok.g
  refine fn_start Try.func71 rfl 42 rfl rfl [(0, _), (1, _)] ⟨rfl, rfl, trivial⟩ ?_; intro a E
  refine wp_seq ?_
  refine region_plain (n := 2) [(0, .p), (1, .p)] rfl rfl ?_
  refine Run.assign rfl E rfl rfl rfl ?_; clear E a; intro a E
  refine Run.assign rfl E rfl rfl rfl ?_; clear E a; intro a E
  refine Run.nil ?_
  refine then_n ?_
  refine wp_seq ?_
  refine wp_seq ?_
  refine region_plain (n := 8) [(0, .p), (1, .p), (2, .p), (3, .p), (4, .p), (5, .e), (6, .p), (7, .p)] rfl rfl ?_
  refine Run.move rfl E rfl rfl rfl ?_; clear E a; intro a E
  refine Run.lss rfl E rfl rfl rfl rfl (decide_eq_false (by omega)) ?_; clear E a; intro a E
  refine Run.move rfl E rfl rfl rfl ?_; clear E a; intro a E
  refine Run.move rfl E rfl rfl rfl ?_; clear E a; intro a E
  refine Run.move rfl E rfl rfl rfl ?_; clear E a; intro a E
  refine Run.call (args := [.pointer (some ⟨g, 0, none⟩)]) rfl rfl E rfl rfl Try.func38 nm38 rfl rfl (tape_len (A := A) (c := c) (B := B) (d := d) (C := C) (e := e) (bs := tbytes G ev ts) (sts := tstarts G ev ts) (la := lastS ts) (G := G) (ev := ev) (lim := lim) (HH.bel S.belT)) ?_; rintro e_ w ⟨rfl, B_⟩; refine ⟨_, rfl, fun _ => B_, ?_⟩; clear E a; replace S := S.bel B_; intro a E
  clear B_
  refine Run.geq rfl E rfl rfl rfl rfl (decide_eq_false (by rw [tstarts_len]; omega)) ?_; clear E a; intro a E
  refine Run.pickF rfl E rfl rfl rfl rfl ?_; clear E a; intro a E
  refine Run.nil ?_
  refine then_n ?_
  refine cond_F E rfl ?_
  refine wp_skip ?_
  refine then_n ?_
  refine wp_seq ?_
  refine region_plain (n := 1) [(0, .p)] rfl rfl ?_
  refine Run.assign rfl E rfl rfl rfl ?_; clear E a; intro a E
  refine Run.nil ?_
  refine then_n ?_
  refine wp_seq ?_
  refine region_plain (n := 1) [(0, .e)] rfl rfl ?_
  refine Run.alloc rfl rfl E S rfl rfl z34 rfl ?_; clear E a S; intro b1 w a E S B_; clear B_
  refine Run.nil ?_
  refine then_n ?_
  refine wp_seq ?_
  refine wp_seq ?_
  refine region_plain (n := 9) [(0, .p), (1, .p), (2, .p), (3, .p), (4, .p), (5, .l), (6, .p), (7, .p), (8, .p)] rfl rfl ?_
  refine Run.move rfl E rfl rfl rfl ?_; clear E a; intro a E
  refine Run.move rfl E rfl rfl rfl ?_; clear E a; intro a E
  refine Run.move rfl E rfl rfl rfl ?_; clear E a; intro a E
  refine Run.nilCheck rfl E rfl rfl rfl ?_; clear E a; intro a E
  refine Run.fieldAddr rfl E rfl rfl rfl fo128_1 (rfl) ?_; clear E a; intro a E
  refine Run.load1 rfl rfl E S rfl rfl rfl one3 (fun _ s => roObj hg s rfl) ?_; clear E a; intro a E
  refine Run.rem rfl E rfl rfl rfl rfl (by omega) (q := (m : Int)) ((rem_nn _ _).trans (by rw [hm])) ?_; clear E a; intro a E
  refine Run.sub rfl E rfl rfl rfl rfl (q := ((k0 + 0 : Nat) : Int)) ((i64_ok (by omega)).trans (by omega)) ?_; clear E a; intro a E
  refine Run.assign rfl E rfl rfl rfl ?_; clear E a; intro a E
  refine Run.nil ?_
  refine then_n ?_
  refine wp_block ?_
  replace S := (S.addRows).addNil 34 8
  replace S : St _ _ _ [_, _, _] := S.sel [2, 0, 1] _ rfl rfl
  refine wp_loop_ghost (fun n_ a w => ∃ j : Nat, ∃ u : Sta, ∃ U : Option Addr, ∃ q : Nat, ∃ l : List StaM, ∃ O : Option Addr, ∃ cO : Nat, m + 1 - j = n_ ∧ Env 42 [(0, .pointer (some ⟨g, 0, none⟩)), (1, .int .i64 (k : Int)), (4, .slice none 0 0), (5, .int .i64 0), (6, .slice O l.length cO), (7, .pointer (some ⟨b1, 0, none⟩)), (8, .int .i64 ((k0 + j : Nat) : Int))] a ∧ St _ _ w [.obj b1 34 [.int .i64 u.kind, .int .i64 u.node, .int .i64 u.phase, .int .i64 u.pos, .int .i64 u.start, .int .i64 u.depth, .int .i64 u.org, .slice U u.caps.length q], .row (.slice O l.length cO) 34 8 l.length (stams l), .rows (l.map StaM.irow)] ∧ (j ≤ m + 1) ∧ (l.map StaM.s = (ts.drop k0).take j) ∧ (j = 0 ∨ (0 < j ∧ ts[k0 + j - 1]? = some u ∧ (⟨u, U, q⟩ : StaM) ∈ l))) _ ⟨0, Sta.zero, none, 0, [], none, 0, rfl, E.keeps [(0, _), (1, _), (4, _), (5, _), (6, _), (7, _), (8, _)] ⟨rfl, rfl, rfl, rfl, rfl, rfl, rfl, trivial⟩, S, Nat.zero_le _, rfl, .inl rfl⟩ ?_
  clear E a S
  rintro n_ a w ⟨j, u, U, q, l, O, cO, rfl, E, S, hj, hl, hu⟩
  refine wp_seq ?_
  refine wp_seq ?_
  refine region_plain (n := 3) [(0, .p), (1, .p), (2, .p)] rfl rfl ?_
  refine Run.move rfl E rfl rfl rfl ?_; clear E a; intro a E
  refine Run.move rfl E rfl rfl rfl ?_; clear E a; intro a E
  by_cases hlt : ((k0 + j : Nat) : Int) ≤ (k : Int)
  · skip
    have hik : k0 + j < ts.length := by omega
    obtain ⟨t, hkt2⟩ : ∃ t, ts[k0 + j]? = some t := ⟨_, List.getElem?_eq_getElem hik⟩
    have hlj : l.length = j := by have := congrArg List.length hl; rw [List.length_map, List.length_take, List.length_drop] at this; omega
    have hR8 := right_capl (hok.right t (List.mem_of_getElem? hkt2))
    have hmod := blk_mod (k := k) (ev := ev) (j := j) hok.e0 (by omega)
    rw [← hm, ← hk0] at hmod
    refine Run.leq rfl E rfl rfl rfl rfl (decide_eq_true (by omega)) ?_; clear E a; intro a E
    refine Run.nil ?_
    refine then_n ?_
    refine cond_T E rfl ?_
    refine wp_skip ?_
    refine then_n ?_
    refine wp_seq ?_
    refine wp_block ?_
    refine wp_seq ?_
    refine region_plain (n := 8) [(0, .p), (1, .l), (2, .p), (3, .e), (4, .p), (5, .p), (6, .p), (7, .l)] rfl rfl ?_
    refine Run.move rfl E rfl rfl rfl ?_; clear E a; intro a E
    refine Run.loadN (cs := [.int .i64 u.kind, .int .i64 u.node, .int .i64 u.phase, .int .i64 u.pos, .int .i64 u.start, .int .i64 u.depth, .int .i64 u.org, .slice U u.caps.length q]) rfl rfl E S rfl rfl rfl ag34 rfl (fun _ s => objAll s 0 rfl) ?_; clear E a; intro a E
    refine Run.move rfl E rfl rfl rfl ?_; clear E a; intro a E
    have huu : (k0 + j) % ev = 0 ∨ (u = prevS G ev ts (k0 + j) ∧ Rd w U u.caps.length 1 (ints u.caps)) := by
      rcases hu with h | ⟨h0, h1, h2⟩
      · exact .inl (by rw [hmod]; exact h)
      · refine .inr ⟨?_, S.rowsRd (q := ⟨U, q, u.caps⟩) 2 rfl (List.mem_map.2 ⟨_, h2, rfl⟩)⟩
        have e5 : k0 + j = k0 + j - 1 + 1 := by omega
        rw [e5]; exact (prev_get (by rw [← e5, hmod]; omega) h1).symm
    refine Run.call (args := [.pointer (some ⟨g, 0, none⟩), .agg #[.int .i64 u.kind, .int .i64 u.node, .int .i64 u.phase, .int .i64 u.pos, .int .i64 u.start, .int .i64 u.depth, .int .i64 u.org, .slice U u.caps.length q], .int .i64 ((k0 + j : Nat) : Int)]) rfl rfl E rfl rfl Try.func79 nm79 rfl rfl (tafter_walk (HH.bel S.belT) hok hlim hl1 hkt2 huu) ?_; rintro e_ w ⟨D2, e3, rfl, S_⟩; refine ⟨_, rfl, (fun _ => S_.belT), ?_⟩; clear E a; intro a E
    replace S : St _ _ _ [_, .obj _ _ [_, _, _, _, _, _, _, _], _, _] := St.call (A := []) (R := [_, _, _]) S S_; clear S_
    refine Run.move rfl E rfl rfl rfl ?_; clear E a; intro a E
    refine Run.extract rfl E rfl rfl rfl rfl ?_; clear E a; intro a E
    refine Run.extract rfl E rfl rfl rfl rfl ?_; clear E a; intro a E
    refine Run.store (news := [.int .i64 t.kind, .int .i64 t.node, .int .i64 t.phase, .int .i64 t.pos, .int .i64 t.start, .int .i64 t.depth, .int .i64 t.org, .slice D2 t.caps.length e3]) (cs' := [_, _, _, _, _, _, _, _]) (hp' := [_, _, _, _]) 1 rfl E S rfl rfl rfl rfl rfl sz34 rfl rfl rfl rfl ?_; clear S; intro w S
    refine Run.nil ?_
    refine then_n ?_
    refine region_plain (n := 5) [(0, .p), (1, .l), (2, .e), (3, .l), (4, .p)] rfl rfl ?_
    refine Run.move rfl E rfl rfl rfl ?_; clear E a; intro a E
    refine Run.loadN (cs := [.int .i64 t.kind, .int .i64 t.node, .int .i64 t.phase, .int .i64 t.pos, .int .i64 t.start, .int .i64 t.depth, .int .i64 t.org, .slice D2 t.caps.length e3]) rfl rfl E S rfl rfl rfl ag34 rfl (fun _ s => objAll s 1 rfl) ?_; clear E a; intro a E
    refine Run.buildSlice (cs := [.int .i64 t.kind, .int .i64 t.node, .int .i64 t.phase, .int .i64 t.pos, .int .i64 t.start, .int .i64 t.depth, .int .i64 t.org, .slice D2 t.caps.length e3]) [(0, .agg #[.int .i64 t.kind, .int .i64 t.node, .int .i64 t.phase, .int .i64 t.pos, .int .i64 t.start, .int .i64 t.depth, .int .i64 t.org, .slice D2 t.caps.length e3])] rfl rfl E S rfl rfl rfl Try.underlying50 (by kernel_rfl) ?_; clear E a S; intro b4 w a E S B_; clear B_
    refine Run.append (news := [.int .i64 t.kind, .int .i64 t.node, .int .i64 t.phase, .int .i64 t.pos, .int .i64 t.start, .int .i64 t.depth, .int .i64 t.org, .slice D2 t.caps.length e3]) (nm := l.length + 1) 3 rfl E S rfl rfl rfl rfl rfl Try.underlying50 I34 rfl rfl rfl (objNews S 0 rfl) (by simp [Value.oneCell']) (by omega) (by omega) (by omega) ?_; clear E a S; intro A5 c6 w a E S
    replace S : St _ _ _ [.obj _ _ [_, _, _, _, _, _, _, _], _, .obj _ _ [_, _, _, _, _, _, _, _], _, _] := S
    refine Run.assign rfl E rfl rfl rfl ?_; clear E a; intro a E
    refine Run.nil ?_
    refine blk_n ?_
    refine then_n ?_
    refine region_plain (n := 3) [(0, .p), (1, .p), (2, .p)] rfl rfl ?_
    refine Run.move rfl E rfl rfl rfl ?_; clear E a; intro a E
    refine Run.add rfl E rfl rfl rfl rfl (i64_ok (by omega)) ?_; clear E a; intro a E
    refine Run.assign rfl E rfl rfl rfl ?_; clear E a; intro a E
    refine Run.nil ?_
    refine then_n ?_
    replace E := E.setv 8 rfl (show Value.int .i64 (((k0 + j : Nat) : Int) + 1) = .int .i64 ((k0 + (j + 1) : Nat) : Int) from rfl)
    have S : St _ _ _ [_, _, _, _, _] := S.sel [0, 1, 4, 2, 3] _ rfl rfl
    have S := S.drop1
    replace S := S.rowsSnoc rfl
    rw [stams_snoc, irows_snoc] at S
    replace S : St _ _ _ [_, _, _] := S.sel [1, 2, 0] _ rfl rfl
    have e1 : (l ++ [(⟨t, D2, e3⟩ : StaM)]).length = l.length + 1 := by simp
    rw [← e1] at S E
    exact ⟨_, (by omega), (j + 1), t, D2, e3, (l ++ [⟨t, D2, e3⟩]), A5, c6, rfl, E.keeps [(0, _), (1, _), (4, _), (5, _), (6, _), (7, _), (8, _)] ⟨rfl, rfl, rfl, rfl, rfl, rfl, rfl, trivial⟩, S, (by omega), (by rw [List.map_append, hl, List.take_add_one, List.getElem?_drop, hkt2]; rfl), (.inr ⟨by omega, by rw [show k0 + (j + 1) - 1 = k0 + j by omega]; exact hkt2, by simp⟩)⟩
  · skip
    refine Run.leq rfl E rfl rfl rfl rfl (decide_eq_false (by omega)) ?_; clear E a; intro a E
    refine Run.nil ?_
    refine then_n ?_
    refine cond_F E rfl ?_
    refine wp_exit ?_
    refine then_x ?_
    refine then_x ?_
    refine blk_x ?_
    refine then_n ?_
    refine wp_seq ?_
    refine region_plain (n := 3) [(0, .p), (1, .p), (2, .p)] rfl rfl ?_
    refine Run.move rfl E rfl rfl rfl ?_; clear E a; intro a E
    refine Run.assign rfl E rfl rfl rfl ?_; clear E a; intro a E
    refine Run.assign rfl E rfl rfl rfl ?_; clear E a; intro a E
    refine Run.nil ?_
    refine then_n ?_
    refine wp_ret ?_
    have hj2 : j = m + 1 := by omega
    subst hj2
    refine ret2 E Try.results71 rfl rfl ⟨O, cO, l, by rw [hl, hk0, hm], rfl, ?_⟩
    have S : St _ _ _ [_, _, _] := S.sel [0, 1, 2] _ rfl rfl
    have S := S.drop1
    exact S

theorem tat_low {k0 : Int} (H : HoldsAll w0 [.obj g 128 [.int .i64 (G : Int), .int .i64 (ev : Int), .int .i64 lim, .slice A ((tbytes G ev ts).length) c, .slice B ((tstarts G ev ts).length) d, .int .i64 ((lastS ts).kind), .int .i64 ((lastS ts).node), .int .i64 ((lastS ts).phase), .int .i64 ((lastS ts).pos), .int .i64 ((lastS ts).start), .int .i64 ((lastS ts).depth), .int .i64 ((lastS ts).org), .slice C ((lastS ts).caps.length) e], .row (.slice A ((tbytes G ev ts).length) c) 5 1 ((tbytes G ev ts).length) (u8s (tbytes G ev ts)), .row (.slice B ((tstarts G ev ts).length) d) 3 1 ((tstarts G ev ts).length) (ints (tstarts G ev ts)), .row (.slice C ((lastS ts).caps.length) e) 3 1 ((lastS ts).caps.length) (ints (lastS ts).caps)]) (hok : TapeOK G ev ts) (hlim : ((tbytes G ev ts).length : Int) ≤ lim) (hl1 : lim ≤ 16777216) (h : k0 < 0) : Calls Try.prog 41 [.pointer (some ⟨g, 0, none⟩), .int .i64 k0].toArray w0 (fun r w' => r = .returned (.tuple #[.agg #[.int .i64 0, .int .i64 0, .int .i64 0, .int .i64 0, .int .i64 0, .int .i64 0, .int .i64 0, .slice none 0 0], .int .i64 0, .int .i64 12]) ∧ Bel w0 w') := by
  have HH := H
  have S := St.nil [] w0
  refine fn_start Try.func41 rfl 27 rfl rfl [(0, _), (1, _)] ⟨rfl, rfl, trivial⟩ ?_; intro a E
  refine wp_seq ?_
  refine region_plain (n := 3) [(0, .e), (1, .p), (2, .p)] rfl rfl ?_
  refine Run.alloc rfl rfl E S rfl rfl z34 rfl ?_; clear E a S; intro b1 w a E S B_; clear B_
  refine Run.assign rfl E rfl rfl rfl ?_; clear E a; intro a E
  refine Run.assign rfl E rfl rfl rfl ?_; clear E a; intro a E
  refine Run.nil ?_
  refine then_n ?_
  refine wp_seq ?_
  refine region_plain (n := 8) [(0, .p), (1, .p), (2, .e), (3, .p), (4, .p), (5, .p), (6, .p), (7, .p)] rfl rfl ?_
  refine Run.move rfl E rfl rfl rfl ?_; clear E a; intro a E
  refine Run.move rfl E rfl rfl rfl ?_; clear E a; intro a E
  refine Run.call (args := [.pointer (some ⟨g, 0, none⟩), .int .i64 k0]) rfl rfl E rfl rfl Try.func71 nm71 rfl rfl (tblock_low (HH.bel S.belT) hok hlim hl1 h) ?_; rintro e_ w ⟨rfl, B_⟩; refine ⟨_, rfl, fun _ => B_, ?_⟩; clear E a; replace S := S.bel B_; intro a E
  clear B_
  refine Run.move rfl E rfl rfl rfl ?_; clear E a; intro a E
  refine Run.extract rfl E rfl rfl rfl rfl ?_; clear E a; intro a E
  refine Run.extract rfl E rfl rfl rfl rfl ?_; clear E a; intro a E
  refine Run.assign rfl E rfl rfl rfl ?_; clear E a; intro a E
  refine Run.assign rfl E rfl rfl rfl ?_; clear E a; intro a E
  refine Run.nil ?_
  refine then_n ?_
  refine wp_seq ?_
  refine wp_seq ?_
  refine region_plain (n := 2) [(0, .p), (1, .p)] rfl rfl ?_
  refine Run.move rfl E rfl rfl rfl ?_; clear E a; intro a E
  refine Run.nei rfl E rfl rfl rfl rfl (b := true) (by decide) ?_; clear E a; intro a E
  refine Run.nil ?_
  refine then_n ?_
  refine cond_T E rfl ?_
  refine wp_seq ?_
  refine region_plain (n := 5) [(0, .p), (1, .p), (2, .l), (3, .p), (4, .p)] rfl rfl ?_
  refine Run.build (cs := #[.int .i64 0, .int .i64 0, .int .i64 0, .int .i64 0, .int .i64 0, .int .i64 0, .int .i64 0, .slice none 0 0]) [] rfl E rfl rfl rfl (by kernel_rfl) ?_; clear E a; intro a E
  refine Run.move rfl E rfl rfl rfl ?_; clear E a; intro a E
  refine Run.store (news := [.int .i64 0, .int .i64 0, .int .i64 0, .int .i64 0, .int .i64 0, .int .i64 0, .int .i64 0, .slice none 0 0]) (cs' := [_, _, _, _, _, _, _, _]) (hp' := [_]) 0 rfl E S rfl rfl rfl rfl rfl sz34 rfl rfl rfl rfl ?_; clear S; intro w S
  refine Run.assign rfl E rfl rfl rfl ?_; clear E a; intro a E
  refine Run.assign rfl E rfl rfl rfl ?_; clear E a; intro a E
  refine Run.nil ?_
  refine then_n ?_
  refine wp_ret ?_
  refine then_r ?_
  exact retN E (vs := [.agg #[.int .i64 0, .int .i64 0, .int .i64 0, .int .i64 0, .int .i64 0, .int .i64 0, .int .i64 0, .slice none 0 0], .int .i64 0, .int .i64 12]) Try.results41 (.cell (E.slot _ _ rfl) (run_loadVarAgg ag34 rfl (objAll S 0 rfl)) (.tmp (E.slot _ _ rfl) (.tmp (E.slot _ _ rfl) .nil))) rfl ⟨rfl, S.belT⟩

theorem tat_high {k0 : Int} (H : HoldsAll w0 [.obj g 128 [.int .i64 (G : Int), .int .i64 (ev : Int), .int .i64 lim, .slice A ((tbytes G ev ts).length) c, .slice B ((tstarts G ev ts).length) d, .int .i64 ((lastS ts).kind), .int .i64 ((lastS ts).node), .int .i64 ((lastS ts).phase), .int .i64 ((lastS ts).pos), .int .i64 ((lastS ts).start), .int .i64 ((lastS ts).depth), .int .i64 ((lastS ts).org), .slice C ((lastS ts).caps.length) e], .row (.slice A ((tbytes G ev ts).length) c) 5 1 ((tbytes G ev ts).length) (u8s (tbytes G ev ts)), .row (.slice B ((tstarts G ev ts).length) d) 3 1 ((tstarts G ev ts).length) (ints (tstarts G ev ts)), .row (.slice C ((lastS ts).caps.length) e) 3 1 ((lastS ts).caps.length) (ints (lastS ts).caps)]) (hok : TapeOK G ev ts) (hlim : ((tbytes G ev ts).length : Int) ≤ lim) (hl1 : lim ≤ 16777216) (h0 : 0 ≤ k0) (h : (ts.length : Int) ≤ k0) : Calls Try.prog 41 [.pointer (some ⟨g, 0, none⟩), .int .i64 k0].toArray w0 (fun r w' => r = .returned (.tuple #[.agg #[.int .i64 0, .int .i64 0, .int .i64 0, .int .i64 0, .int .i64 0, .int .i64 0, .int .i64 0, .slice none 0 0], .int .i64 0, .int .i64 12]) ∧ Bel w0 w') := by
  have HH := H
  have S := St.nil [] w0
  refine fn_start Try.func41 rfl 27 rfl rfl [(0, _), (1, _)] ⟨rfl, rfl, trivial⟩ ?_; intro a E
  refine wp_seq ?_
  refine region_plain (n := 3) [(0, .e), (1, .p), (2, .p)] rfl rfl ?_
  refine Run.alloc rfl rfl E S rfl rfl z34 rfl ?_; clear E a S; intro b1 w a E S B_; clear B_
  refine Run.assign rfl E rfl rfl rfl ?_; clear E a; intro a E
  refine Run.assign rfl E rfl rfl rfl ?_; clear E a; intro a E
  refine Run.nil ?_
  refine then_n ?_
  refine wp_seq ?_
  refine region_plain (n := 8) [(0, .p), (1, .p), (2, .e), (3, .p), (4, .p), (5, .p), (6, .p), (7, .p)] rfl rfl ?_
  refine Run.move rfl E rfl rfl rfl ?_; clear E a; intro a E
  refine Run.move rfl E rfl rfl rfl ?_; clear E a; intro a E
  refine Run.call (args := [.pointer (some ⟨g, 0, none⟩), .int .i64 k0]) rfl rfl E rfl rfl Try.func71 nm71 rfl rfl (tblock_high (HH.bel S.belT) hok hlim hl1 h0 h) ?_; rintro e_ w ⟨rfl, B_⟩; refine ⟨_, rfl, fun _ => B_, ?_⟩; clear E a; replace S := S.bel B_; intro a E
  clear B_
  refine Run.move rfl E rfl rfl rfl ?_; clear E a; intro a E
  refine Run.extract rfl E rfl rfl rfl rfl ?_; clear E a; intro a E
  refine Run.extract rfl E rfl rfl rfl rfl ?_; clear E a; intro a E
  refine Run.assign rfl E rfl rfl rfl ?_; clear E a; intro a E
  refine Run.assign rfl E rfl rfl rfl ?_; clear E a; intro a E
  refine Run.nil ?_
  refine then_n ?_
  refine wp_seq ?_
  refine wp_seq ?_
  refine region_plain (n := 2) [(0, .p), (1, .p)] rfl rfl ?_
  refine Run.move rfl E rfl rfl rfl ?_; clear E a; intro a E
  refine Run.nei rfl E rfl rfl rfl rfl (b := true) (by decide) ?_; clear E a; intro a E
  refine Run.nil ?_
  refine then_n ?_
  refine cond_T E rfl ?_
  refine wp_seq ?_
  refine region_plain (n := 5) [(0, .p), (1, .p), (2, .l), (3, .p), (4, .p)] rfl rfl ?_
  refine Run.build (cs := #[.int .i64 0, .int .i64 0, .int .i64 0, .int .i64 0, .int .i64 0, .int .i64 0, .int .i64 0, .slice none 0 0]) [] rfl E rfl rfl rfl (by kernel_rfl) ?_; clear E a; intro a E
  refine Run.move rfl E rfl rfl rfl ?_; clear E a; intro a E
  refine Run.store (news := [.int .i64 0, .int .i64 0, .int .i64 0, .int .i64 0, .int .i64 0, .int .i64 0, .int .i64 0, .slice none 0 0]) (cs' := [_, _, _, _, _, _, _, _]) (hp' := [_]) 0 rfl E S rfl rfl rfl rfl rfl sz34 rfl rfl rfl rfl ?_; clear S; intro w S
  refine Run.assign rfl E rfl rfl rfl ?_; clear E a; intro a E
  refine Run.assign rfl E rfl rfl rfl ?_; clear E a; intro a E
  refine Run.nil ?_
  refine then_n ?_
  refine wp_ret ?_
  refine then_r ?_
  exact retN E (vs := [.agg #[.int .i64 0, .int .i64 0, .int .i64 0, .int .i64 0, .int .i64 0, .int .i64 0, .int .i64 0, .slice none 0 0], .int .i64 0, .int .i64 12]) Try.results41 (.cell (E.slot _ _ rfl) (run_loadVarAgg ag34 rfl (objAll S 0 rfl)) (.tmp (E.slot _ _ rfl) (.tmp (E.slot _ _ rfl) .nil))) rfl ⟨rfl, S.belT⟩

theorem tat_ok (H : HoldsAll w0 [.obj g 128 [.int .i64 (G : Int), .int .i64 (ev : Int), .int .i64 lim, .slice A ((tbytes G ev ts).length) c, .slice B ((tstarts G ev ts).length) d, .int .i64 ((lastS ts).kind), .int .i64 ((lastS ts).node), .int .i64 ((lastS ts).phase), .int .i64 ((lastS ts).pos), .int .i64 ((lastS ts).start), .int .i64 ((lastS ts).depth), .int .i64 ((lastS ts).org), .slice C ((lastS ts).caps.length) e], .row (.slice A ((tbytes G ev ts).length) c) 5 1 ((tbytes G ev ts).length) (u8s (tbytes G ev ts)), .row (.slice B ((tstarts G ev ts).length) d) 3 1 ((tstarts G ev ts).length) (ints (tstarts G ev ts)), .row (.slice C ((lastS ts).caps.length) e) 3 1 ((lastS ts).caps.length) (ints (lastS ts).caps)]) (hok : TapeOK G ev ts) (hlim : ((tbytes G ev ts).length : Int) ≤ lim) (hl1 : lim ≤ 16777216) (ht : ts[k]? = some t) : Calls Try.prog 41 [.pointer (some ⟨g, 0, none⟩), .int .i64 (k : Int)].toArray w0 (fun r w' => ∃ D e, r = .returned (.tuple #[.agg #[.int .i64 t.kind, .int .i64 t.node, .int .i64 t.phase, .int .i64 t.pos, .int .i64 t.start, .int .i64 t.depth, .int .i64 t.org, .slice D t.caps.length e], .int .i64 ((k % ev + 1 : Nat) : Int), .int .i64 0]) ∧ St [] w0 w' [.row (.slice D t.caps.length e) 3 1 t.caps.length (ints t.caps)]) := by
  have HH := H
  have S := St.nil [] w0
  have hkt : k < ts.length := (List.getElem?_eq_some_iff.1 ht).1
  refine fn_start Try.func41 rfl 27 rfl rfl [(0, _), (1, _)] ⟨rfl, rfl, trivial⟩ ?_; intro a E
  refine wp_seq ?_
  refine region_plain (n := 3) [(0, .e), (1, .p), (2, .p)] rfl rfl ?_
  refine Run.alloc rfl rfl E S rfl rfl z34 rfl ?_; clear E a S; intro b1 w a E S B_; clear B_
  refine Run.assign rfl E rfl rfl rfl ?_; clear E a; intro a E
  refine Run.assign rfl E rfl rfl rfl ?_; clear E a; intro a E
  refine Run.nil ?_
  refine then_n ?_
  refine wp_seq ?_
  refine region_plain (n := 8) [(0, .p), (1, .p), (2, .e), (3, .p), (4, .p), (5, .p), (6, .p), (7, .p)] rfl rfl ?_
  refine Run.move rfl E rfl rfl rfl ?_; clear E a; intro a E
  refine Run.move rfl E rfl rfl rfl ?_; clear E a; intro a E
  refine Run.call (args := [.pointer (some ⟨g, 0, none⟩), .int .i64 (k : Int)]) rfl rfl E rfl rfl Try.func71 nm71 rfl rfl (tblock_ok (HH.bel S.belT) hok hlim hl1 hkt) ?_; rintro e_ w ⟨O, cO, l, hl, rfl, S_⟩; refine ⟨_, rfl, (fun _ => S_.belT), ?_⟩; clear E a; intro a E
  replace S : St _ _ _ [_, _, .obj _ _ [_, _, _, _, _, _, _, _]] := St.call (A := []) (R := [_]) S S_; clear S_
  have hll : l.length = k % ev + 1 := by have := congrArg List.length hl; rw [List.length_map, List.length_take, List.length_drop] at this; have := Nat.mod_le k ev; omega
  have hx : ∃ x, l[k % ev]? = some x := ⟨_, List.getElem?_eq_getElem (by omega)⟩
  obtain ⟨x, hx⟩ := hx
  have hxs : x.s = t := by
    have h1 : (l.map StaM.s)[k % ev]? = some x.s := by rw [List.getElem?_map, hx]; rfl
    have h2 := Nat.mod_le k ev
    rw [hl, List.getElem?_take, if_pos (by omega), List.getElem?_drop, show k - k % ev + k % ev = k by omega, ht] at h1
    exact (Option.some.inj h1).symm
  have hme : k % ev < 1024 + 1 := by have := Nat.mod_lt k hok.e0; have := hok.e1; omega
  refine Run.move rfl E rfl rfl rfl ?_; clear E a; intro a E
  refine Run.extract rfl E rfl rfl rfl rfl ?_; clear E a; intro a E
  refine Run.extract rfl E rfl rfl rfl rfl ?_; clear E a; intro a E
  refine Run.assign rfl E rfl rfl rfl ?_; clear E a; intro a E
  refine Run.assign rfl E rfl rfl rfl ?_; clear E a; intro a E
  refine Run.nil ?_
  refine then_n ?_
  refine wp_seq ?_
  refine wp_seq ?_
  refine region_plain (n := 2) [(0, .p), (1, .p)] rfl rfl ?_
  refine Run.move rfl E rfl rfl rfl ?_; clear E a; intro a E
  refine Run.nei rfl E rfl rfl rfl rfl (b := false) (by decide) ?_; clear E a; intro a E
  refine Run.nil ?_
  refine then_n ?_
  refine cond_F E rfl ?_
  refine wp_skip ?_
  refine then_n ?_
  refine wp_seq ?_
  refine region_plain (n := 11) [(0, .p), (1, .p), (2, .p), (3, .p), (4, .p), (5, .l), (6, .p), (7, .p), (8, .l), (9, .p), (10, .p)] rfl rfl ?_
  refine Run.move rfl E rfl rfl rfl ?_; clear E a; intro a E
  refine Run.move rfl E rfl rfl rfl ?_; clear E a; intro a E
  refine Run.len rfl E rfl rfl rfl Try.underlying50 ?_; clear E a; intro a E
  refine Run.sub rfl E rfl rfl rfl rfl (i64_ok (by omega)) ?_; clear E a; intro a E
  obtain ⟨bO, rfl⟩ := S.rowAddr 0 rfl (by omega)
  refine Run.indexAddr rfl E rfl rfl rfl rfl Try.underlying50 sz34 (by omega) (ix_at (m' := (k % ev)) (o := (k % ev) * 8) (by omega) rfl) ?_; clear E a; intro a E
  refine Run.loadN (cs := [.int .i64 x.s.kind, .int .i64 x.s.node, .int .i64 x.s.phase, .int .i64 x.s.pos, .int .i64 x.s.start, .int .i64 x.s.depth, .int .i64 x.s.org, .slice x.A x.s.caps.length x.c]) rfl rfl E S rfl rfl rfl ag34 rfl (fun _ s_ => rowAt s_ 0 _ _ rfl (stams_get hx)) ?_; clear E a; intro a E
  refine Run.move rfl E rfl rfl rfl ?_; clear E a; intro a E
  refine Run.len rfl E rfl rfl rfl Try.underlying50 ?_; clear E a; intro a E
  refine Run.store (news := [.int .i64 x.s.kind, .int .i64 x.s.node, .int .i64 x.s.phase, .int .i64 x.s.pos, .int .i64 x.s.start, .int .i64 x.s.depth, .int .i64 x.s.org, .slice x.A x.s.caps.length x.c]) (cs' := [_, _, _, _, _, _, _, _]) (hp' := [_, _, _]) 2 rfl E S rfl rfl rfl rfl rfl sz34 rfl rfl rfl rfl ?_; clear S; intro w S
  refine Run.assign rfl E rfl rfl rfl ?_; clear E a; intro a E
  refine Run.assign rfl E rfl rfl rfl ?_; clear E a; intro a E
  refine Run.nil ?_
  refine then_n ?_
  refine wp_ret ?_
  subst hxs
  refine retN E (vs := [.agg #[.int .i64 x.s.kind, .int .i64 x.s.node, .int .i64 x.s.phase, .int .i64 x.s.pos, .int .i64 x.s.start, .int .i64 x.s.depth, .int .i64 x.s.org, .slice x.A x.s.caps.length x.c], .int .i64 (l.length : Int), .int .i64 0]) Try.results41 (.cell (E.slot _ _ rfl) (run_loadVarAgg ag34 rfl (objAll S 2 rfl)) (.tmp (E.slot _ _ rfl) (.tmp (E.slot _ _ rfl) .nil))) rfl ⟨x.A, x.c, ?_, ?_⟩
  · rw [hll]; rfl
  have S : St _ _ _ [_, _, _] := S.sel [0, 2, 1] _ rfl rfl
  have S := S.drop1.drop1
  · exact S.rowsOne (q := x.irow) (List.mem_map.2 ⟨x, List.mem_of_getElem? hx, rfl⟩)

end
end Go.Proofs.Ytlcglefbhlhcpaa.K
