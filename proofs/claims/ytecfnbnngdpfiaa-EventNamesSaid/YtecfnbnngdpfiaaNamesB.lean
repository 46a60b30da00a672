/- Walks through clewlaw14.EventNames, kind by kind: it answers true. Conditions: what the anchor and event.Blank come to (ha, hb), and how the two bounds of the groups come out (h1 to h5). -/
import Derived.Test.YtecfnbnngdpfiaaNamesA
import Derived.LoopTactic
namespace Go.Proofs.Ytecfnbnngdpfiaa.PEventNames
open Go.RowKit Go.Proofs.YtecfnbnngdpfiaaW.PrintWords Go.Proofs.YtecfnbnngdpfiaaW.PrintLast Go.Proofs.YtecfnbnngdpfiaaW.PrintMore
attribute [local go_sem] max2_int min2_int max_two min_two max_three min_three max_four min_four
set_option linter.unusedVariables false
set_option linter.unusedSimpArgs false
set_option maxHeartbeats 4000000 in
set_option maxRecDepth 100000 in
theorem names_low (kind : Int) (d1 : decide (1 ≤ kind) = false) (d2 : decide (kind < 1) = true) (k : Nat) (g : Int) (n : Nat) (w : World) (ha : clewlaw14_anchor.f k = some true) (hb : event_Blank.f k g = some (0, 0, 0, 0, 0, 0, -1, List.replicate n (-1))) (hn : n ≤ 200) (M1 M2 : Int) (h1 : (if g < 0 then 0 else g) = M1) (h2 : (if 99 < M1 then 99 else M1) = M2) (h3 : 0 ≤ M2) (h4 : M2 ≤ 99) (h5 : ((n : Int) != 2 * M2 + 2) = false) :
    Calls Try.prog 4 #[.int .i64 kind, .int .i64 g] w fun e w' => e = .returned (.bool true) ∧ Below w.heap.size w w' := by
  go_enter Try.func4, Try.ntmps4
  go_wp2_with fail
  refine (clewlaw14_anchor.calls k true _ ha).mono ?_
  rintro e w0 ⟨rfl, hb0⟩
  go_wp2_with fail
  refine (event_Blank.calls k g 0 0 0 0 0 0 (-1) (List.replicate n (-1)) _ hb).mono ?_
  rintro e w1 ⟨v, rfl, ho, hb1⟩
  obtain ⟨A, c, rfl, hlc, hC⟩ := Kd.R_reads ho
  rw [List.length_replicate] at hC
  clear ho
  have hb2 := below_step (below_alloc hb0 _) hb1
  clear hb0 hb1
  go_wp2_with fail
  refine (event_Name.low kind _ d2).mono ?_
  rintro e w2 ⟨rfl, hb3⟩
  have hbk := blk_below (heap_alloc_new w1 (.cells #[.int .i64 0, .int .i64 0, .int .i64 0, .int .i64 0, .int .i64 0, .int .i64 0, .int .i64 (-1), .slice A n c] 33)) hb3
  have hC2 := Kd.C_below (Kd.C_alloc hC (.cells #[.int .i64 0, .int .i64 0, .int .i64 0, .int .i64 0, .int .i64 0, .int .i64 0, .int .i64 (-1), .slice A n c] 33)) hb3
  have hb4 := below_step (below_alloc hb2 _) hb3
  have HB := Aside0.mk hb4
  have HC := Aside0.mk hC2
  generalize w1.heap.size = gb at hbk
  clear hb2 hb3 hb4 hC hC2
  have hc0 := (blk_cell hbk 0).trans rfl
  have hc1 := (blk_cell hbk 1).trans rfl
  have hc2 := (blk_cell hbk 2).trans rfl
  have hc3 := (blk_cell hbk 3).trans rfl
  have hc4 := (blk_cell hbk 4).trans rfl
  have hc5 := (blk_cell hbk 5).trans rfl
  have hc6 := (blk_cell hbk 6).trans rfl
  have hc7 := (blk_cell hbk 7).trans rfl
  go_wp2_with fail
  go_loop [77] (fun i => ∃ j : Nat, j ≤ n ∧ i = .int .i64 j) (fun i => n - (intOf i).toNat)
  case atStart => exact ⟨0, Nat.zero_le _, rfl⟩
  case round =>
    obtain ⟨j, hj, rfl⟩ := hrel
    by_cases hlt : j < n
    · obtain ⟨ad, rfl, hcell⟩ := ReadsInt.at_ (k := .i64) (Kd.reads_of_C (d := (0 : Int)) HC.out) j (by omega) (by omega)
      rw [Int.toNat_natCast, rd_rep hlt] at hcell
      have d9 : decide (j < n) = true := decide_eq_true hlt
      clear h1 h2 h5
      go_wp2
      go_round
      case rel => exact ⟨j + 1, by omega, by go_num⟩
      case measure => simp [intOf]; omega
    · have d9 : decide (j < n) = false := decide_eq_false hlt
      clear h1 h2 h5
      go_wp2
      go_ret
      exact ⟨rfl, HB.out⟩
set_option maxHeartbeats 4000000 in
set_option maxRecDepth 100000 in
theorem names_high (kind : Int) (d1 : decide (1 ≤ kind) = true) (d2 : decide (kind < 1) = false) (d3 : decide (kind ≤ 14) = false) (d4 : decide (14 < kind) = true) (k : Nat) (g : Int) (n : Nat) (w : World) (ha : clewlaw14_anchor.f k = some true) (hb : event_Blank.f k g = some (0, 0, 0, 0, 0, 0, -1, List.replicate n (-1))) (hn : n ≤ 200) (M1 M2 : Int) (h1 : (if g < 0 then 0 else g) = M1) (h2 : (if 99 < M1 then 99 else M1) = M2) (h3 : 0 ≤ M2) (h4 : M2 ≤ 99) (h5 : ((n : Int) != 2 * M2 + 2) = false) :
    Calls Try.prog 4 #[.int .i64 kind, .int .i64 g] w fun e w' => e = .returned (.bool true) ∧ Below w.heap.size w w' := by
  go_enter Try.func4, Try.ntmps4
  go_wp2_with fail
  refine (clewlaw14_anchor.calls k true _ ha).mono ?_
  rintro e w0 ⟨rfl, hb0⟩
  go_wp2_with fail
  refine (event_Blank.calls k g 0 0 0 0 0 0 (-1) (List.replicate n (-1)) _ hb).mono ?_
  rintro e w1 ⟨v, rfl, ho, hb1⟩
  obtain ⟨A, c, rfl, hlc, hC⟩ := Kd.R_reads ho
  rw [List.length_replicate] at hC
  clear ho
  have hb2 := below_step (below_alloc hb0 _) hb1
  clear hb0 hb1
  go_wp2_with fail
  refine (event_Name.high kind _ d2 d4).mono ?_
  rintro e w2 ⟨rfl, hb3⟩
  have hbk := blk_below (heap_alloc_new w1 (.cells #[.int .i64 0, .int .i64 0, .int .i64 0, .int .i64 0, .int .i64 0, .int .i64 0, .int .i64 (-1), .slice A n c] 33)) hb3
  have hC2 := Kd.C_below (Kd.C_alloc hC (.cells #[.int .i64 0, .int .i64 0, .int .i64 0, .int .i64 0, .int .i64 0, .int .i64 0, .int .i64 (-1), .slice A n c] 33)) hb3
  have hb4 := below_step (below_alloc hb2 _) hb3
  have HB := Aside0.mk hb4
  have HC := Aside0.mk hC2
  generalize w1.heap.size = gb at hbk
  clear hb2 hb3 hb4 hC hC2
  have hc0 := (blk_cell hbk 0).trans rfl
  have hc1 := (blk_cell hbk 1).trans rfl
  have hc2 := (blk_cell hbk 2).trans rfl
  have hc3 := (blk_cell hbk 3).trans rfl
  have hc4 := (blk_cell hbk 4).trans rfl
  have hc5 := (blk_cell hbk 5).trans rfl
  have hc6 := (blk_cell hbk 6).trans rfl
  have hc7 := (blk_cell hbk 7).trans rfl
  go_wp2_with fail
  go_loop [77] (fun i => ∃ j : Nat, j ≤ n ∧ i = .int .i64 j) (fun i => n - (intOf i).toNat)
  case atStart => exact ⟨0, Nat.zero_le _, rfl⟩
  case round =>
    obtain ⟨j, hj, rfl⟩ := hrel
    by_cases hlt : j < n
    · obtain ⟨ad, rfl, hcell⟩ := ReadsInt.at_ (k := .i64) (Kd.reads_of_C (d := (0 : Int)) HC.out) j (by omega) (by omega)
      rw [Int.toNat_natCast, rd_rep hlt] at hcell
      have d9 : decide (j < n) = true := decide_eq_true hlt
      clear h1 h2 h5
      go_wp2
      go_round
      case rel => exact ⟨j + 1, by omega, by go_num⟩
      case measure => simp [intOf]; omega
    · have d9 : decide (j < n) = false := decide_eq_false hlt
      clear h1 h2 h5
      go_wp2
      go_ret
      exact ⟨rfl, HB.out⟩
set_option maxHeartbeats 4000000 in
set_option maxRecDepth 100000 in
theorem names_at1 (k : Nat) (g : Int) (n : Nat) (w : World) (ha : clewlaw14_anchor.f k = some true) (hb : event_Blank.f k g = some (0, 0, 0, 0, 0, 0, -1, List.replicate n (-1))) (hn : n ≤ 200) (M1 M2 : Int) (h1 : (if g < 0 then 0 else g) = M1) (h2 : (if 99 < M1 then 99 else M1) = M2) (h3 : 0 ≤ M2) (h4 : M2 ≤ 99) (h5 : ((n : Int) != 2 * M2 + 2) = false) :
    Calls Try.prog 4 #[.int .i64 1, .int .i64 g] w fun e w' => e = .returned (.bool true) ∧ Below w.heap.size w w' := by
  go_enter Try.func4, Try.ntmps4
  go_wp2_with fail
  refine (clewlaw14_anchor.calls k true _ ha).mono ?_
  rintro e w0 ⟨rfl, hb0⟩
  go_wp2_with fail
  refine (event_Blank.calls k g 0 0 0 0 0 0 (-1) (List.replicate n (-1)) _ hb).mono ?_
  rintro e w1 ⟨v, rfl, ho, hb1⟩
  obtain ⟨A, c, rfl, hlc, hC⟩ := Kd.R_reads ho
  rw [List.length_replicate] at hC
  clear ho
  have hb2 := below_step (below_alloc hb0 _) hb1
  clear hb0 hb1
  go_wp2_with fail
  refine (event_Name.at1 _).mono ?_
  rintro e w2 ⟨rfl, hb3⟩
  have hbk := blk_below (heap_alloc_new w1 (.cells #[.int .i64 0, .int .i64 0, .int .i64 0, .int .i64 0, .int .i64 0, .int .i64 0, .int .i64 (-1), .slice A n c] 33)) hb3
  have hC2 := Kd.C_below (Kd.C_alloc hC (.cells #[.int .i64 0, .int .i64 0, .int .i64 0, .int .i64 0, .int .i64 0, .int .i64 0, .int .i64 (-1), .slice A n c] 33)) hb3
  have hb4 := below_step (below_alloc hb2 _) hb3
  have HB := Aside0.mk hb4
  have HC := Aside0.mk hC2
  generalize w1.heap.size = gb at hbk
  clear hb2 hb3 hb4 hC hC2
  have hc0 := (blk_cell hbk 0).trans rfl
  have hc1 := (blk_cell hbk 1).trans rfl
  have hc2 := (blk_cell hbk 2).trans rfl
  have hc3 := (blk_cell hbk 3).trans rfl
  have hc4 := (blk_cell hbk 4).trans rfl
  have hc5 := (blk_cell hbk 5).trans rfl
  have hc6 := (blk_cell hbk 6).trans rfl
  have hc7 := (blk_cell hbk 7).trans rfl
  go_wp2_with fail
  go_loop [77] (fun i => ∃ j : Nat, j ≤ n ∧ i = .int .i64 j) (fun i => n - (intOf i).toNat)
  case atStart => exact ⟨0, Nat.zero_le _, rfl⟩
  case round =>
    obtain ⟨j, hj, rfl⟩ := hrel
    by_cases hlt : j < n
    · obtain ⟨ad, rfl, hcell⟩ := ReadsInt.at_ (k := .i64) (Kd.reads_of_C (d := (0 : Int)) HC.out) j (by omega) (by omega)
      rw [Int.toNat_natCast, rd_rep hlt] at hcell
      have d1 : decide (j < n) = true := decide_eq_true hlt
      clear h1 h2 h5
      go_wp2
      go_round
      case rel => exact ⟨j + 1, by omega, by go_num⟩
      case measure => simp [intOf]; omega
    · have d1 : decide (j < n) = false := decide_eq_false hlt
      clear h1 h2 h5
      go_wp2
      go_ret
      exact ⟨rfl, HB.out⟩
set_option maxHeartbeats 4000000 in
set_option maxRecDepth 100000 in
theorem names_at2 (k : Nat) (g : Int) (n : Nat) (w : World) (ha : clewlaw14_anchor.f k = some true) (hb : event_Blank.f k g = some (0, 0, 0, 0, 0, 0, -1, List.replicate n (-1))) (hn : n ≤ 200) (M1 M2 : Int) (h1 : (if g < 0 then 0 else g) = M1) (h2 : (if 99 < M1 then 99 else M1) = M2) (h3 : 0 ≤ M2) (h4 : M2 ≤ 99) (h5 : ((n : Int) != 2 * M2 + 2) = false) :
    Calls Try.prog 4 #[.int .i64 2, .int .i64 g] w fun e w' => e = .returned (.bool true) ∧ Below w.heap.size w w' := by
  go_enter Try.func4, Try.ntmps4
  go_wp2_with fail
  refine (clewlaw14_anchor.calls k true _ ha).mono ?_
  rintro e w0 ⟨rfl, hb0⟩
  go_wp2_with fail
  refine (event_Blank.calls k g 0 0 0 0 0 0 (-1) (List.replicate n (-1)) _ hb).mono ?_
  rintro e w1 ⟨v, rfl, ho, hb1⟩
  obtain ⟨A, c, rfl, hlc, hC⟩ := Kd.R_reads ho
  rw [List.length_replicate] at hC
  clear ho
  have hb2 := below_step (below_alloc hb0 _) hb1
  clear hb0 hb1
  go_wp2_with fail
  refine (event_Name.at2 _).mono ?_
  rintro e w2 ⟨rfl, hb3⟩
  have hbk := blk_below (heap_alloc_new w1 (.cells #[.int .i64 0, .int .i64 0, .int .i64 0, .int .i64 0, .int .i64 0, .int .i64 0, .int .i64 (-1), .slice A n c] 33)) hb3
  have hC2 := Kd.C_below (Kd.C_alloc hC (.cells #[.int .i64 0, .int .i64 0, .int .i64 0, .int .i64 0, .int .i64 0, .int .i64 0, .int .i64 (-1), .slice A n c] 33)) hb3
  have hb4 := below_step (below_alloc hb2 _) hb3
  have HB := Aside0.mk hb4
  have HC := Aside0.mk hC2
  generalize w1.heap.size = gb at hbk
  clear hb2 hb3 hb4 hC hC2
  have hc0 := (blk_cell hbk 0).trans rfl
  have hc1 := (blk_cell hbk 1).trans rfl
  have hc2 := (blk_cell hbk 2).trans rfl
  have hc3 := (blk_cell hbk 3).trans rfl
  have hc4 := (blk_cell hbk 4).trans rfl
  have hc5 := (blk_cell hbk 5).trans rfl
  have hc6 := (blk_cell hbk 6).trans rfl
  have hc7 := (blk_cell hbk 7).trans rfl
  go_wp2_with fail
  go_loop [77] (fun i => ∃ j : Nat, j ≤ n ∧ i = .int .i64 j) (fun i => n - (intOf i).toNat)
  case atStart => exact ⟨0, Nat.zero_le _, rfl⟩
  case round =>
    obtain ⟨j, hj, rfl⟩ := hrel
    by_cases hlt : j < n
    · obtain ⟨ad, rfl, hcell⟩ := ReadsInt.at_ (k := .i64) (Kd.reads_of_C (d := (0 : Int)) HC.out) j (by omega) (by omega)
      rw [Int.toNat_natCast, rd_rep hlt] at hcell
      have d1 : decide (j < n) = true := decide_eq_true hlt
      clear h1 h2 h5
      go_wp2
      go_round
      case rel => exact ⟨j + 1, by omega, by go_num⟩
      case measure => simp [intOf]; omega
    · have d1 : decide (j < n) = false := decide_eq_false hlt
      clear h1 h2 h5
      go_wp2
      go_ret
      exact ⟨rfl, HB.out⟩
set_option maxHeartbeats 4000000 in
set_option maxRecDepth 100000 in
theorem names_at3 (k : Nat) (g : Int) (n : Nat) (w : World) (ha : clewlaw14_anchor.f k = some true) (hb : event_Blank.f k g = some (0, 0, 0, 0, 0, 0, -1, List.replicate n (-1))) (hn : n ≤ 200) (M1 M2 : Int) (h1 : (if g < 0 then 0 else g) = M1) (h2 : (if 99 < M1 then 99 else M1) = M2) (h3 : 0 ≤ M2) (h4 : M2 ≤ 99) (h5 : ((n : Int) != 2 * M2 + 2) = false) :
    Calls Try.prog 4 #[.int .i64 3, .int .i64 g] w fun e w' => e = .returned (.bool true) ∧ Below w.heap.size w w' := by
  go_enter Try.func4, Try.ntmps4
  go_wp2_with fail
  refine (clewlaw14_anchor.calls k true _ ha).mono ?_
  rintro e w0 ⟨rfl, hb0⟩
  go_wp2_with fail
  refine (event_Blank.calls k g 0 0 0 0 0 0 (-1) (List.replicate n (-1)) _ hb).mono ?_
  rintro e w1 ⟨v, rfl, ho, hb1⟩
  obtain ⟨A, c, rfl, hlc, hC⟩ := Kd.R_reads ho
  rw [List.length_replicate] at hC
  clear ho
  have hb2 := below_step (below_alloc hb0 _) hb1
  clear hb0 hb1
  go_wp2_with fail
  refine (event_Name.at3 _).mono ?_
  rintro e w2 ⟨rfl, hb3⟩
  have hbk := blk_below (heap_alloc_new w1 (.cells #[.int .i64 0, .int .i64 0, .int .i64 0, .int .i64 0, .int .i64 0, .int .i64 0, .int .i64 (-1), .slice A n c] 33)) hb3
  have hC2 := Kd.C_below (Kd.C_alloc hC (.cells #[.int .i64 0, .int .i64 0, .int .i64 0, .int .i64 0, .int .i64 0, .int .i64 0, .int .i64 (-1), .slice A n c] 33)) hb3
  have hb4 := below_step (below_alloc hb2 _) hb3
  have HB := Aside0.mk hb4
  have HC := Aside0.mk hC2
  generalize w1.heap.size = gb at hbk
  clear hb2 hb3 hb4 hC hC2
  have hc0 := (blk_cell hbk 0).trans rfl
  have hc1 := (blk_cell hbk 1).trans rfl
  have hc2 := (blk_cell hbk 2).trans rfl
  have hc3 := (blk_cell hbk 3).trans rfl
  have hc4 := (blk_cell hbk 4).trans rfl
  have hc5 := (blk_cell hbk 5).trans rfl
  have hc6 := (blk_cell hbk 6).trans rfl
  have hc7 := (blk_cell hbk 7).trans rfl
  go_wp2_with fail
  go_loop [77] (fun i => ∃ j : Nat, j ≤ n ∧ i = .int .i64 j) (fun i => n - (intOf i).toNat)
  case atStart => exact ⟨0, Nat.zero_le _, rfl⟩
  case round =>
    obtain ⟨j, hj, rfl⟩ := hrel
    by_cases hlt : j < n
    · obtain ⟨ad, rfl, hcell⟩ := ReadsInt.at_ (k := .i64) (Kd.reads_of_C (d := (0 : Int)) HC.out) j (by omega) (by omega)
      rw [Int.toNat_natCast, rd_rep hlt] at hcell
      have d1 : decide (j < n) = true := decide_eq_true hlt
      clear h1 h2 h5
      go_wp2
      go_round
      case rel => exact ⟨j + 1, by omega, by go_num⟩
      case measure => simp [intOf]; omega
    · have d1 : decide (j < n) = false := decide_eq_false hlt
      clear h1 h2 h5
      go_wp2
      go_ret
      exact ⟨rfl, HB.out⟩
end Go.Proofs.Ytecfnbnngdpfiaa.PEventNames
