/- A tape's All. -/
import Derived.Test.YtlcglefbhlhcpaaKg
import Derived.Test.YtlcglefbhlhcpaaTaB
import Derived.Test.YtlcglefbhlhcpaaKz
import Derived.Sort.LoopGhostIn
namespace Go.Proofs.Ytlcglefbhlhcpaa.K
open Go.RowKit
set_option linter.unusedVariables false
set_option maxRecDepth 100000
set_option maxHeartbeats 400000

section
variable {w0 : World} {A B C : Option Addr} {c d e g : Nat} {G ev : Nat} {lim : Int} {ts : List Sta}

theorem all_walk  : Calls Try.prog 25 [.pointer (some ⟨g, 0, none⟩)].toArray w0 (fun r w' => ∃ b, r = .returned (.func (.func 85) #[] #[.pointer (some ⟨b, 0, none⟩)]) ∧ St [] w0 w' [.obj b 24 [.pointer (some ⟨g, 0, none⟩)]]) := by
  have S := St.nil [] w0
  refine fn_start Try.func25 rfl 4 rfl rfl [(0, _)] ⟨rfl, trivial⟩ ?_; intro a E
  refine wp_seq ?_
  refine region_plain (n := 2) [(0, .e), (1, .p)] rfl rfl ?_
  refine Run.box (cs := [.pointer (some ⟨g, 0, none⟩)]) rfl rfl E S rfl rfl rfl rfl ?_; clear E a S; intro b1 w a E S B_; clear B_
  refine Run.assign rfl E rfl rfl rfl ?_; clear E a; intro a E
  refine Run.nil ?_
  refine then_n ?_
  refine wp_seq ?_
  refine region_plain (n := 2) [(0, .p), (1, .p)] rfl rfl ?_
  refine Run.makeFunc rfl E rfl rfl rfl ?_; clear E a; intro a E
  refine Run.assign rfl E rfl rfl rfl ?_; clear E a; intro a E
  refine Run.nil ?_
  refine then_n ?_
  refine wp_ret ?_
  exact ret1 E Try.results25 rfl ⟨b1, rfl, S⟩

theorem wa_at {G ev : Nat} {ts : List Sta} {j : Nat} {t : Sta} (h : ts[j]? = some t) : (j + 1) % ev = 0 ∨ t = prevS G ev ts (j + 1) := by
  by_cases hm : (j + 1) % ev = 0
  · exact .inl hm
  · exact .inr (prev_get hm h).symm
/-- The iterator hands on all states, each as it was. -/
theorem all_seq (H0 : HoldsAll w0 [.obj g 128 [.int .i64 (G : Int), .int .i64 (ev : Int), .int .i64 lim, .slice A ((tbytes G ev ts).length) c, .slice B ((tstarts G ev ts).length) d, .int .i64 ((lastS ts).kind), .int .i64 ((lastS ts).node), .int .i64 ((lastS ts).phase), .int .i64 ((lastS ts).pos), .int .i64 ((lastS ts).start), .int .i64 ((lastS ts).depth), .int .i64 ((lastS ts).org), .slice C ((lastS ts).caps.length) e], .row (.slice A ((tbytes G ev ts).length) c) 5 1 ((tbytes G ev ts).length) (u8s (tbytes G ev ts)), .row (.slice B ((tstarts G ev ts).length) d) 3 1 ((tstarts G ev ts).length) (ints (tstarts G ev ts)), .row (.slice C ((lastS ts).caps.length) e) 3 1 ((lastS ts).caps.length) (ints (lastS ts).caps)]) (hok : TapeOK G ev ts) (hlim : ((tbytes G ev ts).length : Int) ≤ lim) (hl1 : lim ≤ 16777216) {Bs : Nat} (hBs0 : w0.cell? ⟨Bs, 0, none⟩ = some (.pointer (some ⟨g, 0, none⟩))) (hBl : Bs < w0.heap.size) {F0 : List Nat} (hF : ∀ k ∈ fps [.obj g 128 [.int .i64 (G : Int), .int .i64 (ev : Int), .int .i64 lim, .slice A ((tbytes G ev ts).length) c, .slice B ((tstarts G ev ts).length) d, .int .i64 ((lastS ts).kind), .int .i64 ((lastS ts).node), .int .i64 ((lastS ts).phase), .int .i64 ((lastS ts).pos), .int .i64 ((lastS ts).start), .int .i64 ((lastS ts).depth), .int .i64 ((lastS ts).org), .slice C ((lastS ts).caps.length) e], .row (.slice A ((tbytes G ev ts).length) c) 5 1 ((tbytes G ev ts).length) (u8s (tbytes G ev ts)), .row (.slice B ((tstarts G ev ts).length) d) 3 1 ((tstarts G ev ts).length) (ints (tstarts G ev ts)), .row (.slice C ((lastS ts).caps.length) e) 3 1 ((lastS ts).caps.length) (ints (lastS ts).caps)], k ∉ F0) (hBF : Bs ∉ F0) (hF00 : ∀ k ∈ F0, k < w0.heap.size) :
    SeqW Fence.wide 2 Try.prog 85 #[.pointer (some ⟨Bs, 0, none⟩)] (fun x : Nat × StaM => #[.int .i64 (x.1 : Int), .agg #[.int .i64 x.2.s.kind, .int .i64 x.2.s.node, .int .i64 x.2.s.phase, .int .i64 x.2.s.pos, .int .i64 x.2.s.start, .int .i64 x.2.s.depth, .int .i64 x.2.s.org, .slice x.2.A x.2.s.caps.length x.2.c]]) (Kc F0) (fun (pre : List (Nat × StaM)) x W => x.1 = pre.length ∧ ts[x.1]? = some x.2.s ∧ Rd W x.2.A x.2.s.caps.length 1 (ints x.2.s.caps)) (fun xs : List (Nat × StaM) => xs.length = ts.length) w0 := by
  intro yl J Jx W hW hJ hJx hY h0
  have hBs := (hW.cell (p := ⟨Bs, 0, none⟩) hBl).trans hBs0
  have H := H0.bel hW
  have hWs := hW.size
  have hF0 : ∀ k ∈ F0, k < W.heap.size := fun k hk => by have := hF00 k hk; omega
  have hBW : Bs < W.heap.size := by omega
  obtain ⟨z1, z2, z3⟩ := sat_le hok hlim hl1
  have hgg := hok.g
  rw [show (#[Value.func (.yield yl) #[] #[]] ++ #[Value.pointer (some ⟨Bs, 0, none⟩)] : Array Value) = [Value.func (.yield yl) #[] #[], .pointer (some ⟨Bs, 0, none⟩)].toArray by simp]
  refine fn_startIn Try.func85 rfl 24 rfl rfl [(0, _), (1, _)] ⟨rfl, rfl, trivial⟩ ?_; intro a E
  have S := St.nil [] W
  refine wpIn_seq ?_
  refine region_plain_in (m := 1) WideF.wide [(0, .e)] (by kernel_rfl) rfl rfl ?_
  refine Run.alloc rfl rfl E S rfl rfl z34 rfl ?_; clear E a S; intro b1 w a E S B_; clear B_
  refine Run.nilIn ?_
  refine then_n ?_
  refine wpIn_seq ?_
  refine region_plain_in (m := 3) WideF.wide [(0, .l), (1, .e), (2, .p)] (by kernel_rfl) rfl rfl ?_
  refine Run.load1 rfl rfl E S rfl rfl rfl one24 (fun _ s_ => roCell hBs s_) ?_; clear E a; intro a E
  refine Run.call (args := [.pointer (some ⟨g, 0, none⟩)]) rfl rfl E rfl rfl Try.func38 nm38 rfl rfl (tape_len (H.bel S.belT)) ?_; rintro e_ w ⟨rfl, B_⟩; refine ⟨_, rfl, fun _ => B_, ?_⟩; clear E a; replace S := S.bel B_; intro a E
  clear B_
  refine Run.move rfl E rfl rfl rfl ?_; clear E a; intro a E
  refine Run.nilIn ?_
  refine then_n ?_
  refine wpIn_block ?_
  replace S := S.addNil 3 1
  replace S : St _ _ _ [_, _] := S.sel [1, 0] _ rfl rfl
  refine wpIn_loop_ghost (fun n_ a w => ∃ (j : Nat) (pre : List (Nat × StaM)) (u : Sta) (U : Option Addr) (q : Nat), ts.length - j = n_ ∧ j ≤ ts.length ∧ Env 24 [(0, .func (.yield yl) #[] #[]), (1, .pointer (some ⟨Bs, 0, none⟩)), (3, .pointer (some ⟨b1, 0, none⟩)), (6, .int .i64 ((tstarts G ev ts).length : Int)), (7, .int .i64 (j : Int))] a ∧ pre.length = j ∧ J pre w ∧ Kc F0 W w ∧ Own w [.obj b1 34 [.int .i64 u.kind, .int .i64 u.node, .int .i64 u.phase, .int .i64 u.pos, .int .i64 u.start, .int .i64 u.depth, .int .i64 u.org, .slice U u.caps.length q], .row (.slice U u.caps.length q) 3 1 u.caps.length (ints u.caps)] ∧ (∀ b ∈ fps [.obj b1 34 [.int .i64 u.kind, .int .i64 u.node, .int .i64 u.phase, .int .i64 u.pos, .int .i64 u.start, .int .i64 u.depth, .int .i64 u.org, .slice U u.caps.length q], .row (.slice U u.caps.length q) 3 1 u.caps.length (ints u.caps)], W.heap.size ≤ b) ∧ (j % ev = 0 ∨ u = prevS G ev ts j)) _ ⟨0, [], Sta.zero, none, 0, rfl, Nat.zero_le _, E.keeps [(0, _), (1, _), (3, _), (6, _), (7, _)] ⟨rfl, rfl, rfl, rfl, rfl, trivial⟩, rfl, hJ.bel h0 S.belT, Kc.ofChg (Chg.ofBel S.belT) (fun r hr => by cases hr), S.own, (fun b hb => (S.fresh b hb).resolve_left (by simp)), .inl (Nat.zero_mod _)⟩ ?_
  clear E a S
  rintro n_ a wl ⟨j, pre, u, U, q, rfl, hj, E, hpl, hJp, hKw, hO, hfr, hu⟩
  have S := hO.st
  have hBw := hKw.cell hBs hBF
  have Hw := hKw.all H hF
  have hBn : Bs ∉ fps [.obj b1 34 [.int .i64 u.kind, .int .i64 u.node, .int .i64 u.phase, .int .i64 u.pos, .int .i64 u.start, .int .i64 u.depth, .int .i64 u.org, .slice U u.caps.length q], .row (.slice U u.caps.length q) 3 1 u.caps.length (ints u.caps)] := fun m => by have h_ := hfr Bs m; omega
  refine wpIn_seq ?_
  refine region_plain_in (m := 1) WideF.wide [(0, .p)] (by kernel_rfl) rfl rfl ?_
  by_cases hlt : j < (tstarts G ev ts).length
  · skip
    have hjl : j < ts.length := by rw [tstarts_len] at hlt; exact hlt
    obtain ⟨t, hkt⟩ : ∃ t, ts[j]? = some t := ⟨_, List.getElem?_eq_getElem hjl⟩
    have hRt := right_capl (hok.right t (List.mem_of_getElem? hkt))
    refine Run.lss rfl E rfl rfl rfl rfl (decide_eq_true (by omega)) ?_; clear E a; intro a E
    refine Run.nilIn ?_
    refine then_n ?_
    refine wpIn_seq ?_
    refine cond_T_in E rfl ?_
    refine wpIn_skip ?_
    refine then_n ?_
    refine wpIn_seq ?_
    refine wpIn_block ?_
    refine wpIn_seq ?_
    refine region_plain_in (m := 2) WideF.wide [(0, .p), (1, .p)] (by kernel_rfl) rfl rfl ?_
    refine Run.move rfl E rfl rfl rfl ?_; clear E a; intro a E
    refine Run.assign rfl E rfl rfl rfl ?_; clear E a; intro a E
    refine Run.nilIn ?_
    refine then_n ?_
    refine wpIn_seq ?_
    refine region_plain_in (m := 8) WideF.wide [(0, .l), (1, .l), (2, .p), (3, .e), (4, .p), (5, .p), (6, .p), (7, .l)] (by kernel_rfl) rfl rfl ?_
    refine Run.load1 rfl rfl E S rfl rfl rfl one24 (fun _ s_ => roCellK hBw hBn s_) ?_; clear E a; intro a E
    refine Run.loadN (cs := [.int .i64 u.kind, .int .i64 u.node, .int .i64 u.phase, .int .i64 u.pos, .int .i64 u.start, .int .i64 u.depth, .int .i64 u.org, .slice U u.caps.length q]) rfl rfl E S rfl rfl rfl ag34 rfl (fun _ s => objAll s 0 rfl) ?_; clear E a; intro a E
    refine Run.move rfl E rfl rfl rfl ?_; clear E a; intro a E
    have huu : j % ev = 0 ∨ (u = prevS G ev ts j ∧ Rd wl U u.caps.length 1 (ints u.caps)) := hu.imp_right (fun h => ⟨h, S.rd 1 rfl⟩)
    refine Run.call (args := [.pointer (some ⟨g, 0, none⟩), .agg #[.int .i64 u.kind, .int .i64 u.node, .int .i64 u.phase, .int .i64 u.pos, .int .i64 u.start, .int .i64 u.depth, .int .i64 u.org, .slice U u.caps.length q], .int .i64 (j : Int)]) rfl rfl E rfl rfl Try.func79 nm79 rfl rfl (tafter_walk Hw hok hlim hl1 hkt huu) ?_; rintro e_ w ⟨D2, e3, rfl, S_⟩; refine ⟨_, rfl, (fun _ => S_.belT), ?_⟩; clear E a; intro a E
    replace S : St _ _ _ [_, .obj _ _ [_, _, _, _, _, _, _, _], _] := St.call (A := []) (R := [_, _]) S S_; clear S_
    refine Run.move rfl E rfl rfl rfl ?_; clear E a; intro a E
    refine Run.extract rfl E rfl rfl rfl rfl ?_; clear E a; intro a E
    refine Run.extract rfl E rfl rfl rfl rfl ?_; clear E a; intro a E
    refine Run.store (news := [.int .i64 t.kind, .int .i64 t.node, .int .i64 t.phase, .int .i64 t.pos, .int .i64 t.start, .int .i64 t.depth, .int .i64 t.org, .slice D2 t.caps.length e3]) (cs' := [_, _, _, _, _, _, _, _]) (hp' := [_, _, _]) 1 rfl E S rfl rfl rfl rfl rfl sz34 rfl rfl rfl rfl ?_; clear S; intro w S
    refine Run.nilIn ?_
    refine then_n ?_
    refine wpIn_seq ?_
    have S : St _ _ _ [_, _, _] := S.sel [2, 1, 0] _ rfl rfl
    have S := S.drop1
    have hlW := S.chg.size
    refine region_then_in (m := 6) (Z := fun a' w' => ∃ Dy ey, Env 24 [(17, .func (.yield yl) #[] #[]), (18, .int .i64 (j : Int)), (20, .agg #[.int .i64 t.kind, .int .i64 t.node, .int .i64 t.phase, .int .i64 t.pos, .int .i64 t.start, .int .i64 t.depth, .int .i64 t.org, .slice Dy t.caps.length ey]), (0, .func (.yield yl) #[] #[]), (1, .pointer (some ⟨Bs, 0, none⟩)), (3, .pointer (some ⟨b1, 0, none⟩)), (6, .int .i64 ((tstarts G ev ts).length : Int)), (7, .int .i64 (j : Int))] a' ∧ St (fps [.obj b1 34 [.int .i64 u.kind, .int .i64 u.node, .int .i64 u.phase, .int .i64 u.pos, .int .i64 u.start, .int .i64 u.depth, .int .i64 u.org, .slice U u.caps.length q], .row (.slice U u.caps.length q) 3 1 u.caps.length (ints u.caps)]) wl w' [.obj b1 34 [.int .i64 t.kind, .int .i64 t.node, .int .i64 t.phase, .int .i64 t.pos, .int .i64 t.start, .int .i64 t.depth, .int .i64 t.org, .slice D2 t.caps.length e3], .row (.slice D2 t.caps.length e3) 3 1 t.caps.length (ints t.caps), .row (.slice Dy t.caps.length ey) 3 1 t.caps.length (ints t.caps)]) WideF.wide [(0, .p), (1, .p), (2, .t), (3, .l)] [4, 5] (by kernel_rfl) rfl rfl ?_ ?_
    · skip
      refine Run.move rfl E rfl rfl rfl ?_; clear E a; intro a E
      refine Run.move rfl E rfl rfl rfl ?_; clear E a; intro a E
      refine Run.loadN (cs := [.int .i64 t.kind, .int .i64 t.node, .int .i64 t.phase, .int .i64 t.pos, .int .i64 t.start, .int .i64 t.depth, .int .i64 t.org, .slice D2 t.caps.length e3]) rfl rfl E S rfl rfl rfl ag34 rfl (fun _ s => objAll s 0 rfl) ?_; clear E a; intro a E
      refine Run.call (args := [.agg #[.int .i64 t.kind, .int .i64 t.node, .int .i64 t.phase, .int .i64 t.pos, .int .i64 t.start, .int .i64 t.depth, .int .i64 t.org, .slice D2 t.caps.length e3]]) rfl rfl E rfl rfl Try.func44 nm44 rfl rfl (own_walk (s := t) (S.rd 1 rfl) (by omega)) ?_; rintro e_ w ⟨D4, e5, rfl, S_⟩; refine ⟨_, rfl, (fun _ => S_.belT), ?_⟩; clear E a; intro a E
      replace S : St _ _ _ [_, .obj _ _ [_, _, _, _, _, _, _, _], _] := St.call (A := []) (R := [_, _]) S S_; clear S_
      replace S : St _ _ _ [_, _, _] := S.sel [1, 2, 0] _ rfl rfl
      refine Run.nilIn ?_
      exact ⟨D4, e5, E.keeps [(17, _), (18, _), (20, _), (0, _), (1, _), (3, _), (6, _), (7, _)] ⟨rfl, rfl, rfl, rfl, rfl, rfl, rfl, rfl, trivial⟩, S⟩
    · clear E a S
      rintro a w2 ⟨Dy, ey, E, S⟩
      have hJ2 := hJ _ _ _ _ hJp S.chg hfr
      have hKw2 := hKw.step S.chg hfr
      refine ops_round2 (n := 2) (l := yl) WideF.wide rfl E rfl rfl rfl rfl (hY pre (j, ⟨t, Dy, ey⟩) _ hJ2 ⟨hpl.symm, hkt, S.rd 2 rfl⟩) ?_
      rintro e W3 (⟨rfl, hJ3, hk3⟩ | ⟨rfl, hJx3⟩)
      · refine ⟨true, rfl, fun a E => ?_⟩
        have S1 : St _ _ _ [.obj b1 34 [.int .i64 t.kind, .int .i64 t.node, .int .i64 t.phase, .int .i64 t.pos, .int .i64 t.start, .int .i64 t.depth, .int .i64 t.org, .slice D2 t.caps.length e3], .row (.slice D2 t.caps.length e3) 3 1 t.caps.length (ints t.caps)] := (S.sel [2, 0, 1] [_, _, _] rfl rfl).drop1
        have hfr3 : ∀ b ∈ fps [.obj b1 34 [.int .i64 t.kind, .int .i64 t.node, .int .i64 t.phase, .int .i64 t.pos, .int .i64 t.start, .int .i64 t.depth, .int .i64 t.org, .slice D2 t.caps.length e3], .row (.slice D2 t.caps.length e3) 3 1 t.caps.length (ints t.caps)], W.heap.size ≤ b := fun b hb => by rcases S1.fresh b hb with h_ | h_; exact hfr b h_; have := hKw.1; omega
        have hO3 := hk3.own S1.own (fun k hk hm => by have h1_ := hfr3 k hk; have h2_ := hF0 k hm; omega)
        have hKw3 := hKw2.trans hk3
        have S := St.nil [] W3
        refine ops_in_run WideF.wide (by kernel_rfl) [(5, .p)] ?_
        refine Run.not rfl E rfl rfl rfl rfl ?_; clear E a; intro a E
        refine Run.nilIn ?_
        refine then_n ?_
        refine cond_F_in E rfl ?_
        refine wpIn_skip ?_
        refine blk_n ?_
        refine then_n ?_
        refine region_plain_in (m := 2) WideF.wide [(0, .p), (1, .p)] (by kernel_rfl) rfl rfl ?_
        refine Run.add rfl E rfl rfl rfl rfl (i64_ok (by omega)) ?_; clear E a; intro a E
        refine Run.move rfl E rfl rfl rfl ?_; clear E a; intro a E
        refine Run.nilIn ?_
        refine then_n ?_
        replace E := E.setv 7 rfl (show Value.int .i64 ((j : Int) + 1) = .int .i64 ((j + 1 : Nat) : Int) from rfl)
        exact ⟨_, (by omega), j + 1, pre ++ [(j, ⟨t, Dy, ey⟩)], t, D2, e3, rfl, (by omega), E.keeps [(0, _), (1, _), (3, _), (6, _), (7, _)] ⟨rfl, rfl, rfl, rfl, rfl, trivial⟩, (by simp [hpl]), hJ3, hKw3, hO3, hfr3, (wa_at hkt)⟩
      · refine ⟨false, rfl, fun a E => ?_⟩
        have S := St.nil [] W3
        refine ops_in_run WideF.wide (by kernel_rfl) [(5, .p)] ?_
        refine Run.not rfl E rfl rfl rfl rfl ?_; clear E a; intro a E
        refine Run.nilIn ?_
        refine then_n ?_
        refine cond_T_in E rfl ?_
        refine wpIn_ret ?_
        refine blk_r ?_
        refine then_r ?_
        refine then_r ?_
        refine blk_r ?_
        exact ret0' E Try.results85 ⟨⟨_, rfl⟩, .inr ⟨_, hJx3⟩⟩
  · skip
    refine Run.lss rfl E rfl rfl rfl rfl (decide_eq_false (by omega)) ?_; clear E a; intro a E
    refine Run.nilIn ?_
    refine then_n ?_
    refine wpIn_seq ?_
    refine cond_F_in E rfl ?_
    refine wpIn_exit ?_
    refine then_x ?_
    refine then_x ?_
    refine blk_x ?_
    exact ret0 E Try.results85 ⟨⟨_, rfl⟩, .inl ⟨pre, by rw [tstarts_len] at hlt; omega, hJp⟩⟩

end
end Go.Proofs.Ytlcglefbhlhcpaa.K
