/- Backward; Undo. -/
import Derived.Test.YtlcglefbhlhcpaaKg
import Derived.Test.YtlcglefbhlhcpaaUnQ
namespace Go.Proofs.Ytlcglefbhlhcpaa.K
open Go.RowKit
set_option linter.unusedVariables false
set_option maxRecDepth 100000
set_option maxHeartbeats 400000

section
variable {w0 : World} {g c d : Nat} {A B : Option Addr} {now : List Int} {trail : List Note}

theorem backward_walk {n : Nat} : Calls Try.prog 94 [.slice A n c].toArray w0 (fun r w' => ∃ b, r = .returned (.func (.func 115) #[] #[.pointer (some ⟨b, 0, none⟩)]) ∧ St [] w0 w' [.obj b 134 [.slice A n c]]) := by
  have S := St.nil [] w0
  refine fn_start Try.func94 rfl 4 rfl rfl [(0, _)] ⟨rfl, trivial⟩ ?_; intro a E
  refine wp_seq ?_
  refine region_plain (n := 2) [(0, .e), (1, .p)] rfl rfl ?_
  refine Run.box (cs := [.slice A n c]) rfl rfl E S rfl rfl rfl rfl ?_; clear E a S; intro b1 w a E S B_; clear B_
  refine Run.assign rfl E rfl rfl rfl ?_; clear E a; intro a E
  refine Run.nil ?_
  refine then_n ?_
  refine wp_seq ?_
  refine region_plain (n := 2) [(0, .p), (1, .p)] rfl rfl ?_
  refine Run.makeFunc rfl E rfl rfl rfl ?_; clear E a; intro a E
  refine Run.assign rfl E rfl rfl rfl ?_; clear E a; intro a E
  refine Run.nil ?_
  refine then_n ?_
  refine wp_ret ?_
  exact ret1 E Try.results94 rfl ⟨b1, rfl, S⟩

theorem Rd.kp {w w' : World} {A : Option Addr} {n sz : Nat} {xs : List Value} {K0 : List Nat} (h : Rd w A n sz xs) (hk : Kp K0 w w') (hA : ∀ b o, A = some ⟨b, o, none⟩ → b ∈ K0) : Rd w' A n sz xs :=
  ⟨h.1, fun h0 => by obtain ⟨b, o, e, hc⟩ := h.2 h0; exact ⟨b, o, e, fun j v hj => hk.cell (hA b o e) (hc j v hj)⟩⟩
/-- The closure hands on all notes, the last first, to whatever round keeps where they lie. -/
theorem backward_stops {p : Note → Prop} {l : List Note} (hp : ∀ n ∈ l, p n) (hl : l.length ≤ 65536) {Bs : Nat} {K0 : List Nat} (hK0 : Bs ∈ K0) (hKs : ∀ k ∈ K0, k < w0.heap.size) (hBs0 : w0.cell? ⟨Bs, 0, none⟩ = some (.slice A l.length c)) (hR0 : Rd w0 A l.length 2 (notes l)) (hKA : ∀ b o, A = some ⟨b, o, none⟩ → b ∈ K0) :
    SeqStopsK Fence.wide 2 Try.prog 115 #[.pointer (some ⟨Bs, 0, none⟩)] (fun x : { x : Nat × Note // p x.2 } => #[.int .i64 (x.1.1 : Int), .agg #[.int .i64 x.1.2.spot, .int .i64 x.1.2.was]]) (Kp K0) (fun xs => xs.map (fun x => x.1.2) = l.reverse) (fun _ => True) l.length w0 := by
  intro yl J Jx W hW hJ hJx hY h0
  have hBs := (hW.cell (p := ⟨Bs, 0, none⟩) (hKs _ hK0)).trans hBs0
  have hR : Rd W A l.length 2 (notes l) := hR0.kp ⟨hW.size, fun k hk => hW.block k (hKs k hk)⟩ hKA
  rw [show (#[Value.func (.yield yl) #[] #[]] ++ #[Value.pointer (some ⟨Bs, 0, none⟩)] : Array Value) = [Value.func (.yield yl) #[] #[], .pointer (some ⟨Bs, 0, none⟩)].toArray by simp]
  refine fn_startIn Try.func115 rfl 19 rfl rfl [(0, _), (1, _)] ⟨rfl, rfl, trivial⟩ ?_; intro a E
  have S := St.nil [] W
  refine wpIn_seq ?_
  refine region_plain_in (m := 4) WideF.wide [(0, .l), (1, .p), (2, .p), (3, .p)] (by kernel_rfl) rfl rfl ?_
  refine Run.load1 rfl rfl E S rfl rfl rfl one134 (fun _ s_ => roCell hBs s_) ?_; clear E a; intro a E
  refine Run.len rfl E rfl rfl rfl Try.underlying134 ?_; clear E a; intro a E
  refine Run.sub rfl E rfl rfl rfl rfl (i64_ok (by omega)) ?_; clear E a; intro a E
  refine Run.assign rfl E rfl rfl rfl ?_; clear E a; intro a E
  refine Run.nilIn ?_
  refine then_n ?_
  refine wpIn_block ?_
  refine wpIn_loop_ghost (fun n_ a w => ∃ k : Nat, ∃ pre : List { x : Nat × Note // p x.2 }, k = n_ ∧ k ≤ l.length ∧ Env 19 [(0, .func (.yield yl) #[] #[]), (1, .pointer (some ⟨Bs, 0, none⟩)), (3, .int .i64 ((k : Int) - 1))] a ∧ pre.map (fun x => x.1.2) = l.reverse.take (l.length - k) ∧ pre.length = l.length - k ∧ J pre w ∧ Kp K0 W w) _ ⟨l.length, [], rfl, Nat.le_refl _, E.keeps [(0, _), (1, _), (3, _)] ⟨rfl, rfl, rfl, trivial⟩, by simp, by simp, h0, Kp.refl _ _⟩ ?_
  clear E a S
  rintro n_ a w ⟨k, pre, rfl, hk, E, hpre, hpl, hJp, hKw⟩
  have S := St.nil [] w
  have hBw := hKw.cell hK0 hBs
  have hRw := hR.kp hKw hKA
  refine wpIn_seq ?_
  refine wpIn_seq ?_
  refine region_plain_in (m := 2) WideF.wide [(0, .p), (1, .p)] (by kernel_rfl) rfl rfl ?_
  refine Run.move rfl E rfl rfl rfl ?_; clear E a; intro a E
  by_cases hk1 : 1 ≤ k
  · skip
    refine Run.geq rfl E rfl rfl rfl rfl (decide_eq_true (by omega)) ?_; clear E a; intro a E
    refine Run.nilIn ?_
    refine then_n ?_
    refine cond_T_in E rfl ?_
    refine wpIn_skip ?_
    refine then_n ?_
    refine wpIn_seq ?_
    refine wpIn_block ?_
    refine wpIn_seq ?_
    have hlt : k - 1 < l.length := by omega
    obtain ⟨bA, oA, rfl, hA⟩ := hRw.place (by omega)
    refine region_then_in (m := 8) (Z := fun a' w' => w' = w ∧ Env 19 [(11, .func (.yield yl) #[] #[]), (12, .int .i64 ((k - 1 : Nat) : Int)), (16, .agg #[.int .i64 (l[k - 1]).spot, .int .i64 (l[k - 1]).was]), (0, .func (.yield yl) #[] #[]), (1, .pointer (some ⟨Bs, 0, none⟩)), (3, .int .i64 ((k : Int) - 1))] a') WideF.wide [(0, .p), (1, .p), (2, .t), (3, .p), (4, .p), (5, .t)] [6, 7] (by kernel_rfl) rfl rfl ?_ ?_
    · skip
      refine Run.move rfl E rfl rfl rfl ?_; clear E a; intro a E
      refine Run.move rfl E rfl rfl rfl ?_; clear E a; intro a E
      refine Run.load1 rfl rfl E S rfl rfl rfl one134 (fun _ s_ => roCell hBw s_) ?_; clear E a; intro a E
      refine Run.move rfl E rfl rfl rfl ?_; clear E a; intro a E
      refine Run.indexAddr rfl E rfl rfl rfl rfl Try.underlying134 sz138 (by omega) (ix_at' (m' := (k - 1)) (by omega)) ?_; clear E a; intro a E
      refine Run.loadN (cs := [.int .i64 ((l[k - 1]).spot), .int .i64 ((l[k - 1]).was)]) rfl rfl E S rfl rfl rfl ag138 rfl (fun _ s_ => rdAtL hA s_ _ _ (flat_at Note.cells 2 (fun _ => rfl) l (k - 1) hlt)) ?_; clear E a; intro a E
      replace E := E.setv 12 rfl (show Value.int .i64 ((k : Int) - 1) = .int .i64 ((k - 1 : Nat) : Int) by rw [Int.natCast_sub (by omega)]; rfl)
      refine Run.nilIn ?_
      exact ⟨rfl, E.keeps [(11, _), (12, _), (16, _), (0, _), (1, _), (3, _)] ⟨rfl, rfl, rfl, rfl, rfl, rfl, trivial⟩⟩
    · clear E a S
      rintro a w2 ⟨rfl, E⟩
      refine ops_round2 (n := 2) (l := yl) WideF.wide rfl E rfl rfl rfl rfl (hY pre ⟨(k - 1, l[k - 1]), hp _ (List.getElem_mem _)⟩ _ hJp (by omega)) ?_
      rintro e W3 (⟨rfl, hJ3, hk3⟩ | ⟨rfl, hJx3⟩)
      · refine ⟨true, rfl, fun a E => ?_⟩
        have S := St.nil [] W3
        refine ops_in_run WideF.wide (by kernel_rfl) [(7, .p)] ?_
        refine Run.not rfl E rfl rfl rfl rfl ?_; clear E a; intro a E
        refine Run.nilIn ?_
        refine then_n ?_
        refine cond_F_in E rfl ?_
        refine wpIn_skip ?_
        refine blk_n ?_
        refine then_n ?_
        refine region_plain_in (m := 3) WideF.wide [(0, .p), (1, .p), (2, .p)] (by kernel_rfl) rfl rfl ?_
        refine Run.move rfl E rfl rfl rfl ?_; clear E a; intro a E
        refine Run.sub rfl E rfl rfl rfl rfl (i64_ok (by omega)) ?_; clear E a; intro a E
        refine Run.assign rfl E rfl rfl rfl ?_; clear E a; intro a E
        refine Run.nilIn ?_
        refine then_n ?_
        replace E := E.setv 3 rfl (show Value.int .i64 ((k : Int) - 1 - 1) = .int .i64 (((k - 1 : Nat) : Int) - 1) by rw [Int.natCast_sub (by omega)]; rfl)
        exact ⟨k - 1, by omega, k - 1, pre ++ [⟨(k - 1, l[k - 1]), hp _ (List.getElem_mem _)⟩], rfl, by omega, E.keeps [(0, _), (1, _), (3, _)] ⟨rfl, rfl, rfl, trivial⟩, by rw [List.map_append, hpre]; have := back_at (l := l) (k := k - 1) (by omega); rw [← this]; congr 2; omega, by simp; omega, hJ3, hKw.trans hk3⟩
      · refine ⟨false, rfl, fun a E => ?_⟩
        have S := St.nil [] W3
        refine ops_in_run WideF.wide (by kernel_rfl) [(7, .p)] ?_
        refine Run.not rfl E rfl rfl rfl rfl ?_; clear E a; intro a E
        refine Run.nilIn ?_
        refine then_n ?_
        refine cond_T_in E rfl ?_
        refine wpIn_ret ?_
        refine blk_r ?_
        refine then_r ?_
        refine then_r ?_
        refine blk_r ?_
        refine ret0' E Try.results115 ⟨⟨_, rfl⟩, .inr ⟨_, trivial, hJx3⟩⟩
  · skip
    have h00 : k = 0 := by omega
    refine Run.geq rfl E rfl rfl rfl rfl (decide_eq_false (by omega)) ?_; clear E a; intro a E
    refine Run.nilIn ?_
    refine then_n ?_
    refine cond_F_in E rfl ?_
    refine wpIn_exit ?_
    refine then_x ?_
    refine then_x ?_
    refine blk_x ?_
    refine ret0 E Try.results115 ⟨⟨_, rfl⟩, .inl ⟨pre, ?_, hJp⟩⟩; show pre.map _ = _; rw [hpre, h00, Nat.sub_zero]; exact List.take_of_length_le (by simp)

theorem un_undo_low {k : Int} (H : Own w0 (Book g A c B d now trail)) (h : k < 0) : Calls Try.prog 53 [.pointer (some ⟨g, 0, none⟩), .int .i64 k].toArray w0 (fun r w' => r = .returned (.bool false) ∧ St (fps (Book g A c B d now trail)) w0 w' (Book g A c B d now trail)) := by
  have S := H.st
  unfold Book at S ⊢
  refine fn_startM Try.func53 rfl 45 rfl rfl [(0, _), (1, _)] ⟨rfl, rfl, trivial⟩ ?_; intro a E
  refine wp_seq ?_
  refine region_plain (n := 2) [(0, .e), (1, .p)] rfl rfl ?_
  refine Run.box (cs := [.pointer (some ⟨g, 0, none⟩)]) rfl rfl E S rfl rfl rfl rfl ?_; clear E a S; intro b1 w a E S B_; clear B_
  refine Run.assign rfl E rfl rfl rfl ?_; clear E a; intro a E
  refine Run.nil ?_
  refine then_n ?_
  refine wp_seq ?_
  refine wp_seq ?_
  refine region_plain (n := 11) [(0, .p), (1, .p), (2, .p), (3, .p), (4, .l), (5, .p), (6, .p), (7, .l), (8, .p), (9, .p), (10, .p)] rfl rfl ?_
  refine Run.move rfl E rfl rfl rfl ?_; clear E a; intro a E
  refine Run.lss rfl E rfl rfl rfl rfl (decide_eq_true (by omega)) ?_; clear E a; intro a E
  refine Run.move rfl E rfl rfl rfl ?_; clear E a; intro a E
  refine Run.off rfl E rfl rfl ?_; clear E a; intro a E
  refine Run.off rfl E rfl rfl ?_; clear E a; intro a E
  refine Run.off rfl E rfl rfl ?_; clear E a; intro a E
  refine Run.off rfl E rfl rfl ?_; clear E a; intro a E
  refine Run.off rfl E rfl rfl ?_; clear E a; intro a E
  refine Run.off rfl E rfl rfl ?_; clear E a; intro a E
  refine Run.off rfl E rfl rfl ?_; clear E a; intro a E
  refine Run.pickT rfl E rfl rfl rfl rfl ?_; clear E a; intro a E
  refine Run.nil ?_
  refine then_n ?_
  refine cond_T E rfl ?_
  refine wp_seq ?_
  refine region_plain (n := 1) [(0, .p)] rfl rfl ?_
  refine Run.assign rfl E rfl rfl rfl ?_; clear E a; intro a E
  refine Run.nil ?_
  refine then_n ?_
  refine wp_ret ?_
  refine then_r ?_
  have S : St _ _ _ [_, _, _, _] := S.sel [0, 1, 2, 3] _ rfl rfl
  have S := S.drop1
  exact retM1 E Try.results53 rfl ⟨rfl, S⟩

theorem un_undo_high {k : Int} (H : Own w0 (Book g A c B d now trail)) (h0 : 0 ≤ k) (h : (trail.length : Int) < k) : Calls Try.prog 53 [.pointer (some ⟨g, 0, none⟩), .int .i64 k].toArray w0 (fun r w' => r = .returned (.bool false) ∧ St (fps (Book g A c B d now trail)) w0 w' (Book g A c B d now trail)) := by
  have S := H.st
  unfold Book at S ⊢
  refine fn_startM Try.func53 rfl 45 rfl rfl [(0, _), (1, _)] ⟨rfl, rfl, trivial⟩ ?_; intro a E
  refine wp_seq ?_
  refine region_plain (n := 2) [(0, .e), (1, .p)] rfl rfl ?_
  refine Run.box (cs := [.pointer (some ⟨g, 0, none⟩)]) rfl rfl E S rfl rfl rfl rfl ?_; clear E a S; intro b1 w a E S B_; clear B_
  refine Run.assign rfl E rfl rfl rfl ?_; clear E a; intro a E
  refine Run.nil ?_
  refine then_n ?_
  refine wp_seq ?_
  refine wp_seq ?_
  refine region_plain (n := 11) [(0, .p), (1, .p), (2, .p), (3, .p), (4, .l), (5, .p), (6, .p), (7, .l), (8, .p), (9, .p), (10, .p)] rfl rfl ?_
  refine Run.move rfl E rfl rfl rfl ?_; clear E a; intro a E
  refine Run.lss rfl E rfl rfl rfl rfl (decide_eq_false (by omega)) ?_; clear E a; intro a E
  refine Run.move rfl E rfl rfl rfl ?_; clear E a; intro a E
  refine Run.move rfl E rfl rfl rfl ?_; clear E a; intro a E
  refine Run.load1 rfl rfl E S rfl rfl rfl one66 (fun _ s => s.objCell 0 0 rfl rfl) ?_; clear E a; intro a E
  refine Run.nilCheck rfl E rfl rfl rfl ?_; clear E a; intro a E
  refine Run.fieldAddr rfl E rfl rfl rfl fo136_1 (rfl) ?_; clear E a; intro a E
  refine Run.load1 rfl rfl E S rfl rfl rfl one134 (fun _ s => s.objCell 1 1 rfl rfl) ?_; clear E a; intro a E
  refine Run.len rfl E rfl rfl rfl Try.underlying134 ?_; clear E a; intro a E
  refine Run.gtr rfl E rfl rfl rfl rfl (decide_eq_true (by omega)) ?_; clear E a; intro a E
  refine Run.pickF rfl E rfl rfl rfl rfl ?_; clear E a; intro a E
  refine Run.nil ?_
  refine then_n ?_
  refine cond_T E rfl ?_
  refine wp_seq ?_
  refine region_plain (n := 1) [(0, .p)] rfl rfl ?_
  refine Run.assign rfl E rfl rfl rfl ?_; clear E a; intro a E
  refine Run.nil ?_
  refine then_n ?_
  refine wp_ret ?_
  refine then_r ?_
  have S : St _ _ _ [_, _, _, _] := S.sel [0, 1, 2, 3] _ rfl rfl
  have S := S.drop1
  exact retM1 E Try.results53 rfl ⟨rfl, S⟩

theorem un_undo {k : Nat} (H : Own w0 (Book g A c B d now trail)) (hk : k ≤ trail.length) (hm : trail.length ≤ 65536) (hn : now.length ≤ 65536) (hr : Ranged now.length trail) : Calls Try.prog 53 [.pointer (some ⟨g, 0, none⟩), .int .i64 (k : Int)].toArray w0 (fun r w' => r = .returned (.bool true) ∧ St (fps (Book g A c B d now trail)) w0 w' (Book g A c B d (back (trail.drop k) now) (trail.take k))) := by
  have S := H.st
  unfold Book at S
  refine fn_startM Try.func53 rfl 45 rfl rfl [(0, _), (1, _)] ⟨rfl, rfl, trivial⟩ ?_; intro a E
  refine wp_seq ?_
  refine region_plain (n := 2) [(0, .e), (1, .p)] rfl rfl ?_
  refine Run.box (cs := [.pointer (some ⟨g, 0, none⟩)]) rfl rfl E S rfl rfl rfl rfl ?_; clear E a S; intro b1 w a E S B_; clear B_
  refine Run.assign rfl E rfl rfl rfl ?_; clear E a; intro a E
  refine Run.nil ?_
  refine then_n ?_
  refine wp_seq ?_
  refine wp_seq ?_
  refine region_plain (n := 11) [(0, .p), (1, .p), (2, .p), (3, .p), (4, .l), (5, .p), (6, .p), (7, .l), (8, .p), (9, .p), (10, .p)] rfl rfl ?_
  refine Run.move rfl E rfl rfl rfl ?_; clear E a; intro a E
  refine Run.lss rfl E rfl rfl rfl rfl (decide_eq_false (by omega)) ?_; clear E a; intro a E
  refine Run.move rfl E rfl rfl rfl ?_; clear E a; intro a E
  refine Run.move rfl E rfl rfl rfl ?_; clear E a; intro a E
  refine Run.load1 rfl rfl E S rfl rfl rfl one66 (fun _ s => s.objCell 0 0 rfl rfl) ?_; clear E a; intro a E
  refine Run.nilCheck rfl E rfl rfl rfl ?_; clear E a; intro a E
  refine Run.fieldAddr rfl E rfl rfl rfl fo136_1 (rfl) ?_; clear E a; intro a E
  refine Run.load1 rfl rfl E S rfl rfl rfl one134 (fun _ s => s.objCell 1 1 rfl rfl) ?_; clear E a; intro a E
  refine Run.len rfl E rfl rfl rfl Try.underlying134 ?_; clear E a; intro a E
  refine Run.gtr rfl E rfl rfl rfl rfl (decide_eq_false (by omega)) ?_; clear E a; intro a E
  refine Run.pickF rfl E rfl rfl rfl rfl ?_; clear E a; intro a E
  refine Run.nil ?_
  refine then_n ?_
  refine cond_F E rfl ?_
  refine wp_skip ?_
  refine then_n ?_
  refine wp_seq ?_
  refine wp_seq ?_
  refine region_plain (n := 7) [(0, .l), (1, .p), (2, .p), (3, .l), (4, .p), (5, .p), (6, .e)] rfl rfl ?_
  refine Run.load1 rfl rfl E S rfl rfl rfl one66 (fun _ s => s.objCell 0 0 rfl rfl) ?_; clear E a; intro a E
  refine Run.nilCheck rfl E rfl rfl rfl ?_; clear E a; intro a E
  refine Run.fieldAddr rfl E rfl rfl rfl fo136_1 (rfl) ?_; clear E a; intro a E
  refine Run.load1 rfl rfl E S rfl rfl rfl one134 (fun _ s => s.objCell 1 1 rfl rfl) ?_; clear E a; intro a E
  refine Run.move rfl E rfl rfl rfl ?_; clear E a; intro a E
  obtain ⟨A', hA'⟩ : ∃ A', (if d = k then B else B.map (·.add (k * 2))) = A' := ⟨_, rfl⟩
  refine Run.subL (A' := A') rfl E rfl rfl rfl rfl Try.underlying134 sz138 (by omega) (q := k) (by omega) hA' ?_; clear E a; intro a E
  refine Run.call (args := [.slice (A') (trail.length - k) (d - k)]) rfl rfl E rfl rfl Try.func94 nm94 rfl rfl (backward_walk) ?_; rintro e_ w ⟨bx2, rfl, S_⟩; refine ⟨_, rfl, (fun _ => S_.belT), ?_⟩; clear E a; intro a E
  replace S : St _ _ _ [.obj _ _ [_], .obj _ _ [_], .obj _ _ [_, _], _, _] := St.call (A := []) (R := [_, _, _, _]) S S_; clear S_
  refine Run.nil ?_
  refine then_n ?_
  refine wp_block ?_
  have E0 : Env 45 [(1, .int .i64 (k : Int)), (2, .pointer (some ⟨b1, 0, none⟩)), (4, .bool false)] a := E.keeps [(1, _), (2, _), (4, _)] ⟨rfl, rfl, rfl, trivial⟩
  have hgf : a.eval (.tmp 24) = .func (.func 115) #[] #[.pointer (some ⟨bx2, 0, none⟩)] := E.eval rfl
  clear E
  obtain ⟨K0, hK0⟩ : ∃ K0, K0 = bx2 :: (Value.slice B trail.length d).ownBlock.toList := ⟨_, rfl⟩
  have hKS : ∀ (pre : List { x : Nat × Note // 0 ≤ x.2.spot ∧ x.2.spot < (now.length : Int) }) (W : World), St (fps (Book g A c B d now trail)) w0 W [.obj bx2 134 [.slice A' (trail.length - k) (d - k)], .obj b1 66 [.pointer (some ⟨g, 0, none⟩)], .obj g 136 [.slice A now.length c, .slice B trail.length d], .row (.slice A now.length c) 3 1 now.length (ints (fw (pre.map (fun x : { x : Nat × Note // 0 ≤ x.2.spot ∧ x.2.spot < (now.length : Int) } => x.1.2)) now)), .row (.slice B trail.length d) 138 2 trail.length (notes trail)] → ∀ q ∈ K0, q < W.heap.size := by
    intro pre W hI q hq
    rw [hK0] at hq
    rcases List.mem_cons.1 hq with rfl | hq
    · exact hI.lt _ (by simp [fps, Ck.fp])
    · exact hI.lt _ (by simp only [fps, List.flatMap_cons, Ck.fp, List.mem_append]; simp [hq])
  have hKs : ∀ q ∈ K0, q < w.heap.size := hKS [] w S
  have hcap : trail.length ≤ d := S.rowCap 4 rfl
  have hRt : Rd w A' (trail.drop k).length 2 (notes (trail.drop k)) := by rw [List.length_drop, ← notes_drop]; exact rd_drop (S.rd 4 rfl) (by omega) hcap hA'
  have hKA : ∀ b o, A' = some ⟨b, o, none⟩ → b ∈ K0 := by
    intro b o he
    rw [hK0]; refine List.mem_cons_of_mem _ ?_
    rw [he] at hA'
    rcases S.row 4 rfl with ⟨_, ⟨hv, _⟩ | ⟨gb, _, _, hv, _⟩⟩
    · have : B = none := (Value.slice.inj hv).1
      subst this; split at hA' <;> simp at hA'
    · have : B = some ⟨gb, 0, none⟩ := (Value.slice.inj hv).1
      subst this
      split at hA'
      · cases hA'; simp [Value.ownBlock]
      · rw [Option.map_some, add_at] at hA'; cases hA'; simp [Value.ownBlock]
  have hps : ∀ n ∈ trail.drop k, 0 ≤ n.spot ∧ n.spot < (now.length : Int) := fun n hn => hr n (List.mem_of_mem_drop hn)
  have hBs : w.cell? ⟨bx2, 0, none⟩ = some (.slice A' (trail.drop k).length (d - k)) := by rw [List.length_drop]; exact S.objCell 0 0 rfl rfl
  have hstops := backward_stops (p := fun n => 0 ≤ n.spot ∧ n.spot < (now.length : Int)) hps (by rw [List.length_drop]; omega) (K0 := K0) (by rw [hK0]; exact List.mem_cons_self) hKs hBs hRt hKA
  have hw0 : w0.heap.size ≤ w.heap.size := S.chg.size
  refine (wpIn_wide (n := 3)).1 (wpIn_rangeFunc_ownH (F := Fence.wide) rfl (by decide) hgf trivial (enters_of Try.func115 nm115 rfl) hstops (fun h k => h.trans k) (Kp.putObj hKs) (Below.refl _ _) (fun _ => rfl) (fun (pre : List { x : Nat × Note // 0 ≤ x.2.spot ∧ x.2.spot < (now.length : Int) }) W => St (fps (Book g A c B d now trail)) w0 W [.obj bx2 134 [.slice A' (trail.length - k) (d - k)], .obj b1 66 [.pointer (some ⟨g, 0, none⟩)], .obj g 136 [.slice A now.length c, .slice B trail.length d], .row (.slice A now.length c) 3 1 now.length (ints (fw (pre.map (fun x : { x : Nat × Note // 0 ≤ x.2.spot ∧ x.2.spot < (now.length : Int) } => x.1.2)) now)), .row (.slice B trail.length d) 138 2 trail.length (notes trail)]) (fun _ _ _ => False) (fun s X Y row hs hg hr => hs.books hw0 hg hr) (fun _ _ _ _ _ hs _ _ => hs) S
    (fun x a' W => ∃ by_ : Nat, Env 45 ((6, .pointer (some ⟨by_, 0, none⟩)) :: [(26, .agg #[.int .i64 x.1.2.spot, .int .i64 x.1.2.was]), (25, .int .i64 (x.1.1 : Int)), (1, .int .i64 (k : Int)), (2, .pointer (some ⟨b1, 0, none⟩)), (4, .bool false)]) a' ∧ W.cell? ⟨by_, 0, none⟩ = some (.int .i64 x.1.2.spot) ∧ W.cell? ⟨by_, 1, none⟩ = some (.int .i64 x.1.2.was) ∧ ∀ q ∈ (Value.slice A now.length c).ownBlock.toList, by_ ≠ q)
    (fun x a' _ X Y row hs hg hr => by obtain ⟨q, h1, h2, h3, h4⟩ := hs; exact ⟨q, h1, cell_turn h2 hg (fun r e => (hr r e).2), cell_turn h3 hg (fun r e => (hr r e).2), h4⟩) ?_ ?_ ?_ ?_)
  · intro l pre x W K hI hK
    have E : Env 45 [(26, .agg #[.int .i64 x.1.2.spot, .int .i64 x.1.2.was]), (25, .int .i64 (x.1.1 : Int)), (1, .int .i64 (k : Int)), (2, .pointer (some ⟨b1, 0, none⟩)), (4, .bool false)] ({ tmps := (Array.zip #[25, 26] #[Value.int .i64 (x.1.1 : Int), .agg #[.int .i64 x.1.2.spot, .int .i64 x.1.2.was]]).foldl (fun t (p, v) => t.setIfInBounds p v) a.tmps, defers := [] } : Act) := by
      have h := ((E0.put (d := 25) (.int .i64 (x.1.1 : Int)) rfl).put (d := 26) (.agg #[.int .i64 x.1.2.spot, .int .i64 x.1.2.was]) rfl).deferred (ds' := [])
      simpa [Act.put] using h
    generalize ({ tmps := (Array.zip #[25, 26] #[Value.int .i64 (x.1.1 : Int), .agg #[.int .i64 x.1.2.spot, .int .i64 x.1.2.was]]).foldl (fun t (p, v) => t.setIfInBounds p v) a.tmps, defers := [] } : Act) = a0 at E ⊢
    clear E0 hgf
    clear a; rename Act => a
    have S := St.nil [] W
    have hI0 := hI; clear hI
    have hKW := hKS pre W hI0
    refine region_plain_in (m := 2) (WideF.round l) [(0, .e), (1, .l)] (by kernel_rfl) rfl rfl ?_
    refine Run.alloc rfl rfl E S rfl rfl z138 rfl ?_; clear E a S; intro b3 w a E S B_; clear B_
    refine Run.store (news := [.int .i64 x.1.2.spot, .int .i64 x.1.2.was]) (cs' := [_, _]) (hp' := [_]) 0 rfl E S rfl rfl rfl rfl rfl sz138 rfl rfl rfl rfl ?_; clear S; intro w S
    refine Run.nilIn ?_
    refine then_n ?_
    exact hK _ _ (Chg.keeps (hp := []) S.chg (fun c hc => by cases hc) _) (S.chg.kp (fun q hq => ⟨hKW q hq, by simp⟩)) (hI0.bel S.belT) ⟨b3, E.keeps [(6, _), (26, _), (25, _), (1, _), (2, _), (4, _)] ⟨rfl, rfl, rfl, rfl, rfl, rfl, trivial⟩, S.objCell 0 0 rfl rfl, S.objCell 0 1 rfl rfl, fun q hq e => by have h1 := hI0.lt q (by simp only [fps, List.flatMap_cons, Ck.fp, List.mem_append]; simp [hq]); have h2 := (S.fresh _ (show b3 ∈ _ by simp [fps, Ck.fp])).resolve_left (by simp); omega⟩
  · rintro l pre x a W hl ⟨r, hr_⟩ hI ⟨by_, E, hb0, hb1, hbq⟩ hN
    clear E0 hgf
    obtain ⟨sp, hsp⟩ : ∃ sp : Nat, x.1.2.spot = (sp : Int) := ⟨x.1.2.spot.toNat, by have := x.2.1; omega⟩
    have hspl : sp < now.length := by have := x.2.2; omega
    rw [hsp] at E hb0
    have hI0 := hI; clear hI
    have hKW := hKS pre W hI0
    obtain ⟨bA, rfl⟩ := hI0.rowAddr 3 rfl (by omega)
    have n3 : by_ ≠ bA := hbq bA (by simp [Value.ownBlock])
    have hall : ∀ c_ ∈ [Ck.row (.slice (some ⟨bA, 0, none⟩) now.length c) 3 1 now.length (ints (fw (pre.map (fun x : { x : Nat × Note // 0 ≤ x.2.spot ∧ x.2.spot < (now.length : Int) } => x.1.2)) now))], c_.holds W := fun c_ hc => by rw [List.mem_singleton.1 hc]; exact hI0.row 3 rfl
    have S : St [bA] W W [Ck.row (.slice (some ⟨bA, 0, none⟩) now.length c) 3 1 now.length (ints (fw (pre.map (fun x : { x : Nat × Note // 0 ≤ x.2.spot ∧ x.2.spot < (now.length : Int) } => x.1.2)) now))] := St.start [Ck.row (.slice (some ⟨bA, 0, none⟩) now.length c) 3 1 now.length (ints (fw (pre.map (fun x : { x : Nat × Note // 0 ≤ x.2.spot ∧ x.2.spot < (now.length : Int) } => x.1.2)) now))] hall (by simp [fps, Ck.fp, Value.ownBlock])
    have hnd : (bx2 :: b1 :: g :: bA :: ((Value.slice B trail.length d).ownBlock.toList ++ [])).Nodup := hI0.nodup
    rw [List.append_nil] at hnd
    have n0 : bx2 ≠ bA := by rintro rfl; simp at hnd
    have n1 : b1 ≠ bA := by rintro rfl; simp at hnd
    have n2 : g ≠ bA := by rintro rfl; simp at hnd
    have nB : bA ∉ (Value.slice B trail.length d).ownBlock.toList := (List.nodup_cons.1 (List.nodup_cons.1 (List.nodup_cons.1 (List.nodup_cons.1 hnd).2).2).2).1
    have o1 := hI0.obj 1 rfl
    have o2 := hI0.obj 2 rfl
    refine wpIn_block ?_
    refine region_drawS_in (m := 10) (WideF.round l) [(4, .p), (6, .p), (0, .t), (1, .p), (2, .p), (3, .t), (5, .t), (7, .t), (8, .p), (9, .l)] [0, 1, 3, 7, 0, 16, 0, 64, 255, 511] S mixed rfl rfl (by kernel_rfl) (by kernel_rfl) (fun _ _ _ _ _ h => h) ?_; clear S; intro w S B_; clear B_
    refine Run.fieldAddr rfl E rfl rfl rfl fo138_0 (rfl) ?_; clear E a; intro a E
    refine Run.fieldAddr rfl E rfl rfl rfl fo138_1 (rfl) ?_; clear E a; intro a E
    refine Run.load1 rfl rfl E S rfl rfl rfl one66 (fun _ s_ => roObjF o1 (by simp [n1]) s_ rfl) ?_; clear E a; intro a E
    refine Run.nilCheck rfl E rfl rfl rfl ?_; clear E a; intro a E
    refine Run.fieldAddr rfl E rfl rfl rfl fo136_0 (rfl) ?_; clear E a; intro a E
    refine Run.load1 rfl rfl E S rfl rfl rfl one32 (fun _ s_ => roObjF o2 (by simp [n2]) s_ rfl) ?_; clear E a; intro a E
    refine Run.load1 rfl rfl E S rfl rfl rfl one3 (fun _ s_ => roCellF hb0 (show by_ ∉ [bA] by simp [n3]) s_) ?_; clear E a; intro a E
    refine Run.load1 rfl rfl E S rfl rfl rfl one3 (fun _ s_ => roCellF hb1 (show by_ ∉ [bA] by simp [n3]) s_) ?_; clear E a; intro a E
    refine Run.indexAddr rfl E rfl rfl rfl rfl Try.underlying32 sz3 (by omega) (ix_at (m' := sp) (o := sp) (by omega) (Nat.mul_one _)) ?_; clear E a; intro a E
    refine Run.storeRow (hp' := [_]) 0 rfl E S rfl rfl rfl rfl (by rw [ints_len, fw_len]; omega) sz3 rfl rfl ?_; clear S; intro w S
    refine Run.nilIn ?_
    refine blk_n ?_
    have hset : (ints (fw (pre.map (fun x : { x : Nat × Note // 0 ≤ x.2.spot ∧ x.2.spot < (now.length : Int) } => x.1.2)) now)).set sp (.int .i64 x.1.2.was) = ints (fw ((pre ++ [x]).map (fun x : { x : Nat × Note // 0 ≤ x.2.spot ∧ x.2.spot < (now.length : Int) } => x.1.2)) now) := by
      rw [List.map_append, List.map_cons, List.map_nil, fw_snoc, hsp, Int.toNat_natCast]; simp [ints, List.map_set]
    rw [hset] at S
    refine ⟨Chg.keeps (hp := [Ck.row (.slice (some ⟨bA, 0, none⟩) now.length c) 3 1 now.length (ints (fw (pre.map (fun x : { x : Nat × Note // 0 ≤ x.2.spot ∧ x.2.spot < (now.length : Int) } => x.1.2)) now))]) S.chg hall _, S.chg.kp (fun q hq => ⟨hKW q hq, ?_⟩), ?_⟩
    · rw [hK0] at hq
      rcases List.mem_cons.1 hq with rfl | hq
      · simpa using n0
      · intro hm; rw [List.mem_singleton.1 hm] at hq; exact nB hq
    · exact (St.call (A := [Ck.row (.slice (some ⟨bA, 0, none⟩) now.length c) 3 1 now.length (ints (fw (pre.map (fun x : { x : Nat × Note // 0 ≤ x.2.spot ∧ x.2.spot < (now.length : Int) } => x.1.2)) now))]) (R := [_, _, _, _]) (hI0.sel [3, 0, 1, 2, 4] [_, _, _, _, _] rfl rfl) S).sel [1, 2, 3, 0, 4] _ rfl rfl
  · intro D xs W hD hS hI hK
    have hfin : fw (xs.map (fun x : { x : Nat × Note // 0 ≤ x.2.spot ∧ x.2.spot < (now.length : Int) } => x.1.2)) now = back (trail.drop k) now := by rw [hS, fw_rev]
    rw [hfin] at hI
    have E : EnvD [{ target := .collected D, args := #[] }] 45 [(1, .int .i64 (k : Int)), (2, .pointer (some ⟨b1, 0, none⟩)), (4, .bool false)] { a with defers := { target := .collected D, args := #[] } :: a.defers } := by
      have h := E0.deferred (ds' := { target := .collected D, args := #[] } :: a.defers)
      rw [E0.defers] at h ⊢; exact h
    generalize ({ a with defers := { target := .collected D, args := #[] } :: a.defers } : Act) = a1 at E ⊢
    clear E0 hgf
    clear a; rename Act => a
    have hI0 := hI; clear hI
    have S := St.start _ hI0.all hI0.nodup
    refine blk_n ?_
    refine then_n ?_
    refine wp_seq ?_
    refine region_drawS (n := 10) [(5, .p), (0, .t), (1, .t), (2, .p), (3, .p), (4, .t), (6, .p), (7, .p), (8, .p), (9, .l)] [0, 0, 2, 6, 14, 0, 62, 127, 255, 511] S mixed rfl rfl (by kernel_rfl) (fun _ _ _ _ _ h => h) ?_; clear S; intro w S B_; clear B_
    refine Run.move rfl E rfl rfl rfl ?_; clear E a; intro a E
    refine Run.load1 rfl rfl E S rfl rfl rfl one66 (fun _ s => s.objCell 1 0 rfl rfl) ?_; clear E a; intro a E
    refine Run.load1 rfl rfl E S rfl rfl rfl one66 (fun _ s => s.objCell 1 0 rfl rfl) ?_; clear E a; intro a E
    refine Run.nilCheck rfl E rfl rfl rfl ?_; clear E a; intro a E
    refine Run.fieldAddr rfl E rfl rfl rfl fo136_1 (rfl) ?_; clear E a; intro a E
    refine Run.load1 rfl rfl E S rfl rfl rfl one134 (fun _ s => s.objCell 2 1 rfl rfl) ?_; clear E a; intro a E
    refine Run.sliceH rfl E rfl rfl rfl rfl Try.underlying134 sz138 (by omega) (q := k) (by omega) ?_; clear E a; intro a E
    refine Run.nilCheck rfl E rfl rfl rfl ?_; clear E a; intro a E
    refine Run.fieldAddr rfl E rfl rfl rfl fo136_1 (rfl) ?_; clear E a; intro a E
    refine Run.store (news := [.slice B k d]) (cs' := [_, _]) (hp' := [_, _, _, _, _]) 2 rfl E S rfl rfl rfl rfl rfl sz134 rfl rfl rfl rfl ?_; clear S; intro w S
    replace S : St _ _ _ [.obj _ _ [_], .obj _ _ [_], .obj _ _ [_, _], _, _] := S.rowTake (hp' := [_, _, _, _, _]) 4 k rfl (by omega) rfl
    refine Run.nil ?_
    refine then_n ?_
    refine wp_seq ?_
    refine region_plain (n := 1) [(0, .p)] rfl rfl ?_
    refine Run.assign rfl E rfl rfl rfl ?_; clear E a; intro a E
    refine Run.nil ?_
    refine then_n ?_
    refine wp_ret ?_
    have hKD : _ = some (Obj.deferred (some [])) := (S.chg.block D (Array.getElem?_eq_some_iff.1 hK).1 (fun hm => by obtain ⟨o, h, hc⟩ := fps_cells hI0.all D hm; rw [hK] at h; cases h; cases hc)).trans hK
    have S2 := St.call (A := [.obj bx2 134 [.slice A' (trail.length - k) (d - k)], .obj b1 66 [.pointer (some ⟨g, 0, none⟩)], .obj g 136 [.slice A now.length c, .slice B trail.length d], .row (.slice A now.length c) 3 1 now.length (ints (back (trail.drop k) now)), .row (.slice B trail.length d) 138 2 trail.length (notes trail)]) (R := []) (by simpa using hI0) S
    have S := (S2.sel [0, 1, 2, 3, 4] [_, _, _, _, _] rfl rfl).drop1.drop1
    have e1 : (back (trail.drop k) now).length = now.length := back_len _ _
    have e2 : (trail.take k).length = k := by simp; omega
    refine retM1' E hKD Try.results53 rfl ⟨rfl, ?_⟩
    refine St.taken ?_ (by omega) hKD
    unfold Book; rw [e1, e2, ← notes_take]; exact S
  · intro D c_ pre W _ _ h; exact h.elim

end
end Go.Proofs.Ytlcglefbhlhcpaa.K
