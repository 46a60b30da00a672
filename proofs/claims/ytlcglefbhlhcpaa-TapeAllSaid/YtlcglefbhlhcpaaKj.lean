/- Appending what is read; slices held against nil; rows of seven numbers held against each other. -/
import Derived.Test.YtlcglefbhlhcpaaKi
import Derived.ChangeKeysEq
namespace Go.Proofs.Ytlcglefbhlhcpaa.K
open Go.RowKit
set_option linter.unusedVariables false
section
variable {P : Program} {ops : Array Oper} {Q : Exit → Act → World → Prop} {dfs : List Deferred} {N : Nat} {env : List (Nat × Value)} {a : Act} {w : World} {i d : Nat} {k : Kind} {r : List (Nat × Kind)}
variable {ty : TypeId} {pos : String} {af : Array Edge} {g : Option (Nat × Bool)} {v u : Value}
variable {F : List Nat} {w0 : World} {hp : List Ck}
theorem run_from_zero (P : Program) (A : Addr) (w : World) : (loadCellsFrom A 0 0 #[]).run P w = .ok #[] w := by
  simp [loadCellsFrom]
/-- Nothing is appended. -/
theorem run_append_zero (w : World) (t ty e : TypeId) (inf : TypeInfo) (he : P.underlying t = some (.slice e)) (hi : P.info? e = some inf) (A B : Option Addr) (n c cy : Nat) (hn : n ≤ c) :
    (Builtin.append_ #[t, t] ty #[.slice A n c, .slice B 0 cy]).run P w = .ok (.slice A n c) w := by
  cases A <;> cases B <;> simp [Builtin.append_, run_underlying he, sizeOf, typeInfo, hi, Builtin.lenOf, Builtin.firstCells, hn, storeCells, loadCells, run_from_zero]
/-- What is appended to no room lies where it would if there were no slice. -/
theorem run_append_noroom (w : World) (t ty e : TypeId) (inf : TypeInfo) (he : P.underlying t = some (.slice e)) (hi : P.info? e = some inf) (A B : Option Addr) (m c : Nat) (hm : 0 < m) (hmx : m ≤ 140737488355328) (hb : m * inf.bytes ≤ 140737488355328) :
    (Builtin.append_ #[t, t] ty #[.slice A 0 0, .slice B m c]).run P w = (Builtin.append_ #[t, t] ty #[.slice none 0 0, .slice B m c]).run P w := by
  have h0 : ¬ m = 0 := by omega
  have h1 : ¬ (9223372036854775807 < (m : Int) ∧ inf.bytes = 0) := by omega
  have h2 : ¬ (281474976710656 < Builtin.nextslicecap m 0 * inf.bytes) := by
    have : Builtin.nextslicecap m 0 = m := by simp [Builtin.nextslicecap, hm]
    rw [this]; omega
  cases A with
  | none => rfl
  | some A => simp [Builtin.append_, run_underlying he, sizeOf, typeInfo, hi, Builtin.lenOf, Builtin.firstCells, h0, h1, h2, loadCells, run_from_zero]
/-- append(s, x...), x read wherever it lies. -/
theorem Run.appendRd {t e sz bytes n m c : Nat} {A B : Option Addr} {cA : Nat} {x y : Operand} {z : Value} {xs news : List Value} (ci : Nat) {nm : Nat} (hi : ops[i]? = some ⟨some d, .call ⟨.builtin .append, #[x, y], #[t, t]⟩, ty, pos, af, g⟩) (E : EnvD dfs N env a) (S : St F w0 w hp) (hw : wnt ops env g = true) (hN : Nat.blt d N = true)
    (hx : ev env x = some (.slice A n cA)) (hy : ev env y = some (.slice B m c)) (hci : hp[ci]? = some (.row (.slice A n cA) e sz n xs)) (he : P.underlying t = some (.slice e)) (hI : (P.info? e).map (fun i => (i.zero, i.size, i.bytes)) = some (some z, sz, bytes)) (hzs : Nat.beq z.cells.size sz = true) (hs0 : Nat.blt 0 sz = true)
    (hR : Rd w B m sz news) (h1 : ∀ u ∈ news, u.oneCell' = true) (hnm : n + m = nm) (hroom : nm * bytes ≤ 140737488355328) (hmax : nm ≤ 140737488355328)
    (K : ∀ A' c' w' a', EnvD dfs N ((d, .slice A' nm c') :: env) a' → St F w0 w' (hp.set ci (.row (.slice A' nm c') e sz nm (xs ++ news))) → Run P ops Q r a' w') : Run P ops Q ((i, .l) :: r) a w := by
  by_cases h0 : 0 < m
  · obtain ⟨b, o, rfl, hc⟩ := hR.place h0
    exact Run.append (news := news) ci hi E S hw hN hx hy hci he hI hzs hs0 hR.1 (fun j u hj => by rw [add_at]; exact hc j u hj) h1 hnm hroom hmax K
  · obtain rfl : m = 0 := by omega
    obtain rfl : news = [] := by have := hR.1; simpa using this
    obtain rfl : n = nm := by omega
    obtain ⟨inf, hinf, hI⟩ := Option.map_eq_some_iff.1 hI
    have hrow := S.row ci hci
    have hnc : n ≤ cA := by
      rcases hrow.2 with ⟨hv, rfl⟩ | ⟨g, cap, cur, hv, _, _, hnc, _⟩
      · cases hv; exact Nat.le_refl _
      · cases hv; exact hnc
    refine Run.ef rfl hi E hw hN (v := .slice A n cA) (w1 := w) ?_ (fun h => by cases h) (fun a' E' => K A cA w a' E' ?_)
    · simp only [execOp, resolve, invoke, builtin, Sem.run_bind, Sem.run_pure, Result.andThen_ok, List.map_toArray, List.map_cons, List.map_nil, E.eval hx, E.eval hy, run_append_zero w t ty e inf he hinf A B n cA c hnc]
    · rw [List.append_nil]
      obtain ⟨hlt, hh⟩ := List.getElem?_eq_some_iff.1 hci
      have : hp.set ci (.row (.slice A n cA) e sz n xs) = hp := by rw [← hh]; exact List.set_getElem_self hlt
      rw [this]; exact S
/-- append([]T{}, x...): no old block is turned. -/
theorem Run.appendE {t e sz bytes m c : Nat} {A B : Option Addr} {x y : Operand} {z : Value} {news : List Value} (ci : Nat) (hk : eff k = true) (hi : ops[i]? = some ⟨some d, .call ⟨.builtin .append, #[x, y], #[t, t]⟩, ty, pos, af, g⟩) (E : EnvD dfs N env a) (S : St F w0 w hp) (hw : wnt ops env g = true) (hN : Nat.blt d N = true)
    (hx : ev env x = some (.slice A 0 0)) (hy : ev env y = some (.slice B m c)) (hci : hp[ci]? = some (.row (.slice A 0 0) e sz 0 [])) (he : P.underlying t = some (.slice e)) (hI : (P.info? e).map (fun i => (i.zero, i.size, i.bytes)) = some (some z, sz, bytes)) (hzs : Nat.beq z.cells.size sz = true) (hs0 : Nat.blt 0 sz = true)
    (hR : Rd w B m sz news) (h1 : ∀ u ∈ news, u.oneCell' = true) (hroom : m * bytes ≤ 140737488355328) (hmax : m ≤ 140737488355328)
    (K : ∀ A' c' w' a', EnvD dfs N ((d, .slice A' m c') :: env) a' → St F w0 w' (hp.set ci (.row (.slice A' m c') e sz m news)) → Bel w w' → Run P ops Q r a' w') : Run P ops Q ((i, k) :: r) a w := by
  obtain ⟨inf, hinf, hI⟩ := Option.map_eq_some_iff.1 hI
  simp only [Prod.mk.injEq] at hI
  obtain ⟨hz, hsz, hby⟩ := hI
  by_cases h0 : 0 < m
  · obtain ⟨b, o, rfl, hc⟩ := hR.place h0
    have h63 : 0 + m ≤ maxLen := by unfold maxLen; omega
    obtain ⟨v', w', hr, hown, hg, _, hat⟩ := run_append_own_at (P := P) w 0 t ty e inf z sz bytes he hinf hz hsz hby (Nat.eq_of_beq_eq_true hzs) (by simpa [Nat.blt_eq] using hs0) (.slice none 0 0) 0 [] (World.ownsRow_nil w 0 e sz) ⟨b, o, none⟩ m c news hR.1 (fun j u hj => by rw [add_at]; exact hc j u hj) h1 h63 (by rw [Nat.zero_add]; exact hroom) (Nat.zero_le _)
    have hg' : Chg [] w w' := by have := Chg.grown hg; simpa [Value.ownBlock] using this
    have hB : Bel w w' := hg'.below
    have hat' : v'.ownBlock = (Value.slice A 0 0).ownBlock ∨ v'.ownBlock = some w.heap.size := by
      rcases hat with h | h
      · exfalso
        have hv0 : v'.ownBlock = none := h
        rcases hown.2 with ⟨_, hx⟩ | ⟨g, cap, cur, hv, _⟩
        · have := hown.1
          omega
        · rw [hv] at hv0; simp [Value.ownBlock] at hv0
      · exact .inr h
    have hg2 : w.grownBy w' (Value.slice A 0 0).ownBlock := ⟨hg.os, hg.tape, hg.output, hg.size, fun j hj hne => hg.block j hj (by simp [Value.ownBlock])⟩
    have hst := S.turnAppend (xs' := [] ++ news) ci hci hown hg2 hat'
    obtain ⟨A', c', rfl, _⟩ := ownsRow_slice hown
    rw [Nat.zero_add, List.nil_append] at hst
    refine Run.ef hk hi E hw hN (v := .slice A' m c') (w1 := w') ?_ (fun _ => hB) (fun a' E' => K A' c' w' a' E' hst hB)
    rw [Nat.zero_add] at hr
    simp only [execOp, resolve, invoke, builtin, Sem.run_bind, Sem.run_pure, Result.andThen_ok, List.map_toArray, List.map_cons, List.map_nil, E.eval hx, E.eval hy, run_append_noroom w t ty e inf he hinf A _ m c h0 hmax (by rw [hby]; exact hroom), hr]
  · obtain rfl : m = 0 := by omega
    obtain rfl : news = [] := by have := hR.1; simpa using this
    refine Run.ef hk hi E hw hN (v := .slice A 0 0) (w1 := w) ?_ (fun _ => Below.refl _ _) (fun a' E' => K A 0 w a' E' ?_ (Below.refl _ _))
    · simp only [execOp, resolve, invoke, builtin, Sem.run_bind, Sem.run_pure, Result.andThen_ok, List.map_toArray, List.map_cons, List.map_nil, E.eval hx, E.eval hy, run_append_zero w t ty e inf he hinf A B 0 0 c (Nat.le_refl _)]
    · obtain ⟨hlt, hh⟩ := List.getElem?_eq_some_iff.1 hci
      have : hp.set ci (.row (.slice A 0 0) e sz 0 []) = hp := by rw [← hh]; exact List.set_getElem_self hlt
      rw [this]; exact S
/-- s == nil. -/
theorem Run.sliceNil {x : Operand} {t t' e n c : Nat} {A : Option Addr} {b : Bool} (hi : ops[i]? = some ⟨some d, .binOp .eql t x (.const (.slice none 0 0)) t', ty, pos, af, g⟩) (E : EnvD dfs N env a) (hw : wnt ops env g = true) (hN : Nat.blt d N = true) (hx : ev env x = some (.slice A n c))
    (he : P.underlying t = some (.slice e)) (hb : A.isNone = b) (K : ∀ a', EnvD dfs N ((d, .bool b) :: env) a' → Run P ops Q r a' w) : Run P ops Q ((i, k) :: r) a w := by
  subst hb
  refine Run.bin hi E hw hN hx rfl (fun w => ?_) K
  have hu : ∀ d (w : World), (Op.equalIn (d + 1) t (.slice A n c) (.slice none 0 0)).run P w = .ok A.isNone w := by
    intro d w
    cases A <;> simp [Op.equalIn, run_underlying he]
  simp [eqGuard, binOp, Op.equal, Op.maxDepth, hu]
/-- Two bools held against each other. -/
theorem Run.eqb {x y : Operand} {xt yt : TypeId} {p q c : Bool} (hi : ops[i]? = some ⟨some d, .binOp .eql xt x y yt, ty, pos, af, g⟩) (E : EnvD dfs N env a) (hw : wnt ops env g = true) (hN : Nat.blt d N = true) (hx : ev env x = some (.bool p)) (hy : ev env y = some (.bool q)) (ht : P.underlying xt = some .bool) (hc : (p == q) = c)
    (K : ∀ a', EnvD dfs N ((d, .bool c) :: env) a' → Run P ops Q r a' w) : Run P ops Q ((i, k) :: r) a w :=
  Run.bin hi E hw hN hx hy (fun w => by subst hc; simp [eqGuard, run_eql_bool w xt p q ht]) K
theorem Run.neb {x y : Operand} {xt yt : TypeId} {p q c : Bool} (hi : ops[i]? = some ⟨some d, .binOp .neq xt x y yt, ty, pos, af, g⟩) (E : EnvD dfs N env a) (hw : wnt ops env g = true) (hN : Nat.blt d N = true) (hx : ev env x = some (.bool p)) (hy : ev env y = some (.bool q)) (ht : P.underlying xt = some .bool) (hc : (!(p == q)) = c)
    (K : ∀ a', EnvD dfs N ((d, .bool c) :: env) a' → Run P ops Q r a' w) : Run P ops Q ((i, k) :: r) a w :=
  Run.bin hi E hw hN hx hy (fun w => by subst hc; simp [eqGuard, run_neq_bool w xt p q ht]) K
end
theorem run_eqItems_ints (d : Nat) (xs ys : List Int) (w : World) : ∀ is : List Nat, (∀ i ∈ is, i < xs.length ∧ i < ys.length) → (Op.eqItems (d + 1) 3 1 (ints xs).toArray (ints ys).toArray is).run Try.prog w = .ok (is.all fun i => xs[i]? == ys[i]?) w
  | [], _ => by simp [Op.eqItems]
  | i :: is, h => by
    have h0 := h i List.mem_cons_self
    have p3 : ∀ (l : List Int) (h : i < l.length), (part 3 (ints l).toArray (i * 1)).run Try.prog w = .ok (.int .i64 l[i]) w := fun l h => by
      simp [part, run_isAgg_one one3, ints, h]
    have i3 : ∀ m n : Int, (Op.equalIn (d + 1) 3 (.int .i64 m) (.int .i64 n)).run Try.prog w = .ok (m == n) w := fun m n => run_equalIn_int w d 3 .i64 .i64 m n Try.underlying3
    simp only [Op.eqItems, Sem.run_bind, p3 xs h0.1, p3 ys h0.2, i3, Result.andThen_ok]
    rw [List.all_cons, List.getElem?_eq_getElem h0.1, List.getElem?_eq_getElem h0.2]
    have ih := run_eqItems_ints d xs ys w is (fun j hj => h j (List.mem_cons_of_mem _ hj))
    by_cases hb : xs[i] = ys[i]
    · simp [hb, ih]
    · simp [hb]
theorem run_equal91 (xs ys : List Int) (hx : xs.length = 7) (hy : ys.length = 7) (w : World) : (Op.equal 91 (.agg (ints xs).toArray) (.agg (ints ys).toArray)).run Try.prog w = .ok (decide (xs = ys)) w := by
  have hi : ∃ i, Try.prog.info? 3 = some i := by
    cases h : Try.prog.info? 3 with
    | none => exact absurd h (by decide +kernel)
    | some i => exact ⟨i, rfl⟩
  obtain ⟨i, hi⟩ := hi
  have hc : Try.prog.cellsOf 3 = 1 := by kernel_rfl
  have hall : (List.range 7).all (fun i => xs[i]? == ys[i]?) = decide (xs = ys) := by
    rw [Bool.eq_iff_iff, List.all_eq_true, decide_eq_true_iff]
    constructor
    · intro h
      apply List.ext_getElem?
      intro j
      by_cases hj : j < 7
      · simpa using h j (List.mem_range.2 hj)
      · rw [List.getElem?_eq_none (by omega), List.getElem?_eq_none (by omega)]
    · rintro rfl j _
      simp
  have e : ∀ d (w : World), (Op.equalIn (d + 1 + 1) 91 (.agg (ints xs).toArray) (.agg (ints ys).toArray)).run Try.prog w = .ok (decide (xs = ys)) w := by
    intro d w
    rw [run_equalIn_array w (d + 1) _ _ Try.underlying91 hi, hc, run_eqItems_ints d xs ys w _ (fun i hi => by have := List.mem_range.1 hi; omega), hall]
  simp [Op.equal, Op.maxDepth, e]
theorem run_eq91 (x y : Operand) (xs ys : List Int) (hx : xs.length = 7) (hy : ys.length = 7) (w : World) : (do eqGuard .eql 91 x y (.agg (ints xs).toArray) (.agg (ints ys).toArray); binOp .eql 91 (.agg (ints xs).toArray) (.agg (ints ys).toArray) : Sem Value).run Try.prog w = .ok (.bool (decide (xs = ys))) w := by
  have h1 : Try.prog.eqGuardType Try.prog.depth 91 = false := by kernel_rfl
  simp [eqGuard, h1, binOp, run_equal91 xs ys hx hy]
end Go.Proofs.Ytlcglefbhlhcpaa.K
