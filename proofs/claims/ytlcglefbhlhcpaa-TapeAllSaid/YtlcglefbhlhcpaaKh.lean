/- More operations: clear; structs held against each other. -/
import Derived.Test.YtlcglefbhlhcpaaKg
import Derived.Laws.StructEq
namespace Go.Proofs.Ytlcglefbhlhcpaa.K
open Go.RowKit
set_option linter.unusedVariables false
section
variable {P : Program} {ops : Array Oper} {Q : Exit → Act → World → Prop} {dfs : List Deferred} {N : Nat} {env : List (Nat × Value)} {a : Act} {w : World} {i d : Nat} {k : Kind} {r : List (Nat × Kind)}
variable {ty : TypeId} {pos : String} {af : Array Edge} {g : Option (Nat × Bool)} {v u : Value}
variable {F : List Nat} {w0 : World} {hp : List Ck}
/-- An operation without a slot whose value is let go. -/
theorem Run.dropV {op : Op} {w1 : World} (hi : ops[i]? = some ⟨none, op, ty, pos, af, g⟩) (E : EnvD dfs N env a) (hw : wnt ops env g = true) (hr : (execOp a.eval ⟨none, op, ty, pos, af, g⟩).run P w = .ok (.value v) w1)
    (K : Run P ops Q r a w1) : Run P ops Q ((i, .l) :: r) a w := by
  have hwant := wnt_wanted (ops := ops) E (o := ⟨none, op, ty, pos, af, g⟩) hw
  show wpOp P ops Q i _ a w
  unfold wpOp
  simp only [hi, hwant, if_true, Oper.wp, hr, Oper.upon]
  exact .inl K
theorem size_zeroCells' (z : Array Value) (n : Nat) : (Builtin.zeroCells z n).size = n * z.size := by simp [Builtin.zeroCells]
theorem Run.clear {x : Operand} {t e sz bytes n c : Nat} {A : Option Addr} {z : Value} {xs : List Value} (ci : Nat) (hi : ops[i]? = some ⟨none, .call ⟨.builtin .clear, #[x], #[t]⟩, ty, pos, af, g⟩) (E : EnvD dfs N env a) (S : St F w0 w hp) (hw : wnt ops env g = true)
    (hx : ev env x = some (.slice A n c)) (hci : hp[ci]? = some (.row (.slice A n c) e sz n xs)) (he : P.underlying t = some (.slice e)) (hI : (P.info? e).map (fun i => (i.zero, i.size, i.bytes)) = some (some z, sz, bytes)) (hzs : Nat.beq z.cells.size sz = true) (hz1 : (z.cells.toList.all (·.oneCell')) = true)
    (K : ∀ w' xs', St F w0 w' (hp.set ci (.row (.slice A n c) e sz n xs')) → Run P ops Q r a w') : Run P ops Q ((i, .l) :: r) a w := by
  obtain ⟨inf, hinf, hI⟩ := Option.map_eq_some_iff.1 hI
  simp only [Prod.mk.injEq] at hI
  obtain ⟨hz, rfl, _⟩ := hI
  have hzs' := Nat.eq_of_beq_eq_true hzs
  have hrow := S.row ci hci
  have hself : hp.set ci (.row (.slice A n c) e inf.size n xs) = hp := by
    obtain ⟨hlt, hh⟩ := List.getElem?_eq_some_iff.1 hci
    rw [← hh]; exact List.set_getElem_self hlt
  rcases hrow.2 with ⟨hv, rfl⟩ | ⟨b, cap, cur, hv, _, hg, hnc, hcm, hcs, htake⟩
  · cases hv
    refine Run.dropV (v := .tuple #[]) hi E hw ?_ (K w xs (by rw [hself]; exact S))
    simp [execOp, resolve, invoke, builtin, E.eval hx, Builtin.clear_, run_underlying he]
  · cases hv
    by_cases h0 : n = 0
    · subst h0
      refine Run.dropV (v := .tuple #[]) hi E hw ?_ (K w xs (by rw [hself]; exact S))
      simp [execOp, resolve, invoke, builtin, E.eval hx, Builtin.clear_, run_underlying he]
    · obtain ⟨m, rfl⟩ : ∃ m, n = m + 1 := ⟨n - 1, by omega⟩
      have hl : (Builtin.zeroCells z.cells (m + 1)).toList.length = (m + 1) * inf.size := by rw [Array.length_toList, size_zeroCells', hzs']
      have hfit : 0 + (Builtin.zeroCells z.cells (m + 1)).toList.length ≤ cur.toList.length := by
        rw [hl, Array.length_toList, hcs, Nat.zero_add]; exact Nat.mul_le_mul_right _ hnc
      have h1 : ∀ x ∈ (Builtin.zeroCells z.cells (m + 1)).toList, x.oneCell' = true := by
        intro x hx
        simp only [Builtin.zeroCells, Array.toList_map, List.mem_map] at hx
        obtain ⟨j, hj, rfl⟩ := hx
        have hj' : j < (m + 1) * z.cells.size := by simpa using hj
        have hpos : 0 < z.cells.size := by
          rcases Nat.eq_zero_or_pos z.cells.size with h | h
          · rw [h] at hj'; omega
          · exact h
        have hlt : j % z.cells.size < z.cells.size := Nat.mod_lt _ hpos
        rw [getElem!_pos z.cells _ hlt]
        exact List.all_eq_true.1 hz1 _ (by simp)
      have hst := run_storeCells_at P b 0 e (Builtin.zeroCells z.cells (m + 1)).toList 0 cur w hg (by simpa using hfit) h1
      simp only [Nat.zero_add, List.take_zero, List.nil_append] at hst
      refine Run.dropV (v := .tuple #[]) hi E hw (w1 := w.setRow b ((Builtin.zeroCells z.cells (m + 1)).toList ++ cur.toList.drop (Builtin.zeroCells z.cells (m + 1)).toList.length).toArray) ?_ (K _ (Builtin.zeroCells z.cells (m + 1)).toList ?_)
      · simp [execOp, resolve, invoke, builtin, E.eval hx, Builtin.clear_, run_underlying he, zeroValue, typeInfo, hinf, hz]
        have hst' : (storeCells ⟨b, 0, none⟩ (Builtin.zeroCells z.cells (m + 1)).toList).run P w = .ok () (w.setRow b ((Builtin.zeroCells z.cells (m + 1)).toList ++ cur.toList.drop (Builtin.zeroCells z.cells (m + 1)).size).toArray) := by simpa using hst
        simp [hst']
      · refine S.turn ci hci ?_ ?_ (fun k hk => .inl hk) (by simp [Ck.fp, Value.ownBlock])
        · exact ⟨rfl, rfl, rfl, by simp [World.setRow], fun k _ hk => setRow_other w b k _ (by simpa [Ck.fp, Value.ownBlock] using hk)⟩
        · refine ⟨hl, .inr ⟨b, c, _, rfl, Nat.zero_le _, setRow_heap w b cur _ e _ hg, hnc, hcm, ?_, ?_⟩⟩
          · rw [List.size_toArray, List.length_append, List.length_drop, hl, Array.length_toList, hcs]
            have : (m + 1) * inf.size ≤ c * inf.size := Nat.mul_le_mul_right _ hnc
            omega
          · rw [← hl]; exact List.take_left
end
theorem run_equal43 (a b : Ent) (w : World) : (Op.equal 43 (.agg #[.bool a.bar, .int .i64 a.pc, .int .i64 a.pos, .int .i64 a.mark, .int .i64 a.org, .int .i64 a.val]) (.agg #[.bool b.bar, .int .i64 b.pc, .int .i64 b.pos, .int .i64 b.mark, .int .i64 b.org, .int .i64 b.val])).run Try.prog w = .ok (decide (a = b)) w := by
  have h2 : Try.prog.stoodInHeld 43 = false := by kernel_rfl
  have h3 : Try.prog.fieldsOf 43 = #[{ name := "Bar", type := 4, offset := 0, embedded := false, tag := "", pkgPath := "", byteOffset := 0 },
        { name := "Pc", type := 3, offset := 1, embedded := false, tag := "", pkgPath := "", byteOffset := 8 },
        { name := "Pos", type := 3, offset := 2, embedded := false, tag := "", pkgPath := "", byteOffset := 16 },
        { name := "Mark", type := 3, offset := 3, embedded := false, tag := "", pkgPath := "", byteOffset := 24 },
        { name := "Origin", type := 3, offset := 4, embedded := false, tag := "", pkgPath := "", byteOffset := 32 },
        { name := "Val", type := 3, offset := 5, embedded := false, tag := "", pkgPath := "", byteOffset := 40 }] := by kernel_rfl
  have hu : Try.prog.underlying 43 = some (.struct (Try.prog.fieldsOf 43)) := by rw [h3]; exact Try.underlying43
  have p3 : ∀ (cs : Array Value) (o : Nat) (v : Value), cs[o]? = some v → ∀ w, (part 3 cs o).run Try.prog w = .ok v w := fun cs o v h w => by simp [part, run_isAgg_one one3, h]
  have p4 : ∀ (cs : Array Value) (o : Nat) (v : Value), cs[o]? = some v → ∀ w, (part 4 cs o).run Try.prog w = .ok v w := fun cs o v h w => by simp [part, run_isAgg_one one4, h]
  have e : ∀ d (w : World), (Op.equalIn (d + 1 + 1) 43 (.agg #[.bool a.bar, .int .i64 a.pc, .int .i64 a.pos, .int .i64 a.mark, .int .i64 a.org, .int .i64 a.val]) (.agg #[.bool b.bar, .int .i64 b.pc, .int .i64 b.pos, .int .i64 b.mark, .int .i64 b.org, .int .i64 b.val])).run Try.prog w = .ok (decide (a = b)) w := by
    intro d w
    rw [run_equalIn_struct w (d + 1) 43 _ _ hu h2, h3]
    simp only [Op.eqFields]
    obtain ⟨a1, a2, a3, a4, a5, a6⟩ := a
    obtain ⟨b1, b2, b3, b4, b5, b6⟩ := b
    have i3 : ∀ (m n : Int) (w : World), (Op.equalIn (d + 1) 3 (.int .i64 m) (.int .i64 n)).run Try.prog w = .ok (m == n) w := fun m n w => run_equalIn_int w d 3 .i64 .i64 m n Try.underlying3
    have i4 : ∀ (m n : Bool) (w : World), (Op.equalIn (d + 1) 4 (.bool m) (.bool n)).run Try.prog w = .ok (m == n) w := fun m n w => run_equalIn_bool' w d 4 m n Try.underlying4
    rw [if_pos (by decide), if_pos (by decide), if_pos (by decide), if_pos (by decide), if_pos (by decide), if_pos (by decide)]
    have q4 : ∀ (x1 : Bool) (x2 x3 x4 x5 x6 : Int) (w : World), (part 4 #[.bool x1, .int .i64 x2, .int .i64 x3, .int .i64 x4, .int .i64 x5, .int .i64 x6] 0).run Try.prog w = .ok (.bool x1) w := fun _ _ _ _ _ _ w => p4 _ _ _ rfl w
    have q3 : ∀ (x1 : Bool) (x2 x3 x4 x5 x6 : Int) (w : World), ((part 3 #[.bool x1, .int .i64 x2, .int .i64 x3, .int .i64 x4, .int .i64 x5, .int .i64 x6] 1).run Try.prog w = .ok (.int .i64 x2) w ∧ (part 3 #[.bool x1, .int .i64 x2, .int .i64 x3, .int .i64 x4, .int .i64 x5, .int .i64 x6] 2).run Try.prog w = .ok (.int .i64 x3) w ∧ (part 3 #[.bool x1, .int .i64 x2, .int .i64 x3, .int .i64 x4, .int .i64 x5, .int .i64 x6] 3).run Try.prog w = .ok (.int .i64 x4) w ∧ (part 3 #[.bool x1, .int .i64 x2, .int .i64 x3, .int .i64 x4, .int .i64 x5, .int .i64 x6] 4).run Try.prog w = .ok (.int .i64 x5) w ∧ (part 3 #[.bool x1, .int .i64 x2, .int .i64 x3, .int .i64 x4, .int .i64 x5, .int .i64 x6] 5).run Try.prog w = .ok (.int .i64 x6) w) := fun _ _ _ _ _ _ w => ⟨p3 _ _ _ rfl w, p3 _ _ _ rfl w, p3 _ _ _ rfl w, p3 _ _ _ rfl w, p3 _ _ _ rfl w⟩
    simp only [Sem.run_bind, q4, q3, i3, i4, Result.andThen_ok, Sem.run_ite, Sem.run_pure, Ent.mk.injEq]
    clear i3 i4 q3 q4 p3 p4 h3 hu
    by_cases c1 : a1 = b1
    · by_cases c2 : a2 = b2
      · by_cases c3 : a3 = b3
        · by_cases c4 : a4 = b4
          · by_cases c5 : a5 = b5
            · by_cases c6 : a6 = b6 <;> simp [c1, c2, c3, c4, c5, c6]
            · simp [c1, c2, c3, c4, c5]
          · simp [c1, c2, c3, c4]
        · simp [c1, c2, c3]
      · simp [c1, c2]
    · simp [c1]
  simp [Op.equal, Op.maxDepth, e]
theorem run_eq43 (x y : Operand) (a b : Ent) (w : World) : (do eqGuard .eql 43 x y (.agg #[.bool a.bar, .int .i64 a.pc, .int .i64 a.pos, .int .i64 a.mark, .int .i64 a.org, .int .i64 a.val]) (.agg #[.bool b.bar, .int .i64 b.pc, .int .i64 b.pos, .int .i64 b.mark, .int .i64 b.org, .int .i64 b.val]); binOp .eql 43 (.agg #[.bool a.bar, .int .i64 a.pc, .int .i64 a.pos, .int .i64 a.mark, .int .i64 a.org, .int .i64 a.val]) (.agg #[.bool b.bar, .int .i64 b.pc, .int .i64 b.pos, .int .i64 b.mark, .int .i64 b.org, .int .i64 b.val]) : Sem Value).run Try.prog w = .ok (.bool (decide (a = b))) w := by
  have h1 : Try.prog.eqGuardType Try.prog.depth 43 = false := by kernel_rfl
  simp [eqGuard, h1, binOp, run_equal43]
theorem run_ne43 (x y : Operand) (a b : Ent) (w : World) : (do eqGuard .neq 43 x y (.agg #[.bool a.bar, .int .i64 a.pc, .int .i64 a.pos, .int .i64 a.mark, .int .i64 a.org, .int .i64 a.val]) (.agg #[.bool b.bar, .int .i64 b.pc, .int .i64 b.pos, .int .i64 b.mark, .int .i64 b.org, .int .i64 b.val]); binOp .neq 43 (.agg #[.bool a.bar, .int .i64 a.pc, .int .i64 a.pos, .int .i64 a.mark, .int .i64 a.org, .int .i64 a.val]) (.agg #[.bool b.bar, .int .i64 b.pc, .int .i64 b.pos, .int .i64 b.mark, .int .i64 b.org, .int .i64 b.val]) : Sem Value).run Try.prog w = .ok (.bool (decide (a ≠ b))) w := by
  have h1 : Try.prog.eqGuardType Try.prog.depth 43 = false := by kernel_rfl
  simp [eqGuard, h1, binOp, run_equal43]
end Go.Proofs.Ytlcglefbhlhcpaa.K
