/- A range over a function: the round's fence, memory between two rounds, the return behind the loop. -/
import Derived.Test.YtlcglefbhlhcpaaKj
import Derived.RangeFuncNested
import Derived.RangeFuncBound
import Derived.RangeFuncCalls
import Derived.RangeFuncLeaves
import Derived.Shelf.Abstract
namespace Go.Proofs.Ytlcglefbhlhcpaa.K
open Go.RowKit Go.Shelf
set_option linter.unusedVariables false
/-- Q, and it isn't let out. -/
def Qo (Q : Exit → Act → World → Prop) : Exit → Act → World → Prop := fun e a w => Q e a w ∧ e ≠ .outgrown
theorem Qo_in {Q : Exit → Act → World → Prop} : ¬ LetsOut (Qo Q) := fun ⟨_, _, h⟩ => h.2 rfl
/-- A fence that lets all by, in a round or not. -/
def WideF (F : Fence) : Prop := F = Fence.wide ∨ ∃ l, F = Fence.wide.inRound l
theorem WideF.wide : WideF Fence.wide := .inl rfl
theorem WideF.round (l : Nat) : WideF (Fence.wide.inRound l) := .inr ⟨l, rfl⟩
section
variable {P : Program} {ops : Array Oper} {Q : Exit → Act → World → Prop} {a : Act} {w : World} {l n : Nat} {F : Fence}
theorem WideF.fn (hF : WideF F) (f : FuncId) : F.fn f := by
  rcases hF with rfl | ⟨l, rfl⟩ <;> trivial
theorem WideF.depth (hF : WideF F) : F.depth = none := by
  rcases hF with rfl | ⟨l, rfl⟩ <;> rfl
theorem WideF.rows (hF : WideF F) {row : String} {args : Array Value} {R : Value → World → Prop} (h : Rows P row args w R) : RowsIn F n P row args w R := by
  rcases hF with rfl | ⟨l, rfl⟩ <;> exact fun c cs _ => let ⟨v, w', r, s⟩ := h c cs; ⟨v, w', r, stepsIn_wide.2 s⟩
theorem WideF.calls (hF : WideF F) {f : FuncId} {args : Array Value} {R : Ending → World → Prop} (h : Calls P f args w R) : CallsIn F n P f args w R := by
  rcases hF with rfl | ⟨l, rfl⟩
  · exact callsIn_wide.2 h
  · exact CallsIn.inRound l (callsIn_wide.2 h)
theorem oper_in (hF : WideF F) {o : Oper} {K : Act → World → Prop} (hd : ∀ c, o.op ≠ .defer c) (h : o.wp P a w K (Qo Q)) : o.wpIn F n P a w K Q := by
  refine ⟨fun f _ => hF.fn f, ?_⟩
  rw [Oper.semAt_eq _ _ _ hd]
  unfold Oper.wp at h
  have hdp : ∀ m, F.depth.isSome = true → 1 ≤ m := fun m hn => by rw [hF.depth] at hn; cases hn
  generalize (execOp a.eval o).run P w = r at *
  cases r with
  | ok nx w' =>
    cases nx <;> simp only [Oper.upon, Oper.uponIn] at h ⊢ <;>
      first
        | exact h
        | exact ⟨hdp n, hF.calls (n := n - 1) (Calls.mono h (fun e w'' he => by cases e <;> first | exact he | exact he.1 | exact absurd he Qo_in))⟩
        | exact ⟨hdp n, hF.rows (n := n - 1) (Rows.mono h (fun _ _ he => he))⟩
        | exact h.elim
  | halt x w' => cases x <;> simp only [Oper.upon, Oper.uponIn] at h ⊢ <;> first | exact h.1 | exact h.elim
/-- No operation defers a call. -/
def noDefer (ops : Array Oper) : Bool := ops.all fun o => match o.op with | .defer _ => false | _ => true
theorem noDefer_spec (h : noDefer ops = true) {i : Nat} {o : Oper} (hi : ops[i]? = some o) : ∀ c, o.op ≠ .defer c := by
  intro c hc
  obtain ⟨hlt, rfl⟩ := Array.getElem?_eq_some_iff.1 hi
  have := Array.all_eq_true.1 h i hlt
  rw [hc] at this
  cases this
theorem ops_in (hF : WideF F) (hd : noDefer ops = true) : ∀ (s : List Nat) (a : Act) (w : World), wpOps P ops (Qo Q) s a w → wpOpsIn F n P ops Q s a w
  | [], _, _, h => h.1
  | i :: r, a, w, h => by
    unfold wpOps at h
    unfold wpOpsIn
    cases ho : ops[i]? with
    | none => rw [ho] at h; exact ops_in hF hd r a w h
    | some o =>
      rw [ho] at h
      dsimp only at h ⊢
      split
      · rename_i hw
        rw [if_pos hw] at h
        rcases h with h | h
        · exact oper_in hF (noDefer_spec hd ho) (Oper.wp_mono (fun a' w' h' => ops_in hF hd r a' w' h') h)
        · exact absurd h.2 Qo_in
      · rename_i hw
        rw [if_neg hw] at h
        exact ⟨fun f _ => hF.fn f, ops_in hF hd r _ w h⟩
/-- The first operations of a plain region; then Z. -/
theorem ops_in_then (hF : WideF F) (hd : noDefer ops = true) {Z : Act → World → Prop} (s2 : List Nat) (hZ : ∀ a w, Z a w → wpOpsIn F n P ops Q s2 a w) : ∀ (s : List Nat) (a : Act) (w : World), wpOps P ops (Qo (Qn Q Z)) s a w → wpOpsIn F n P ops Q (s ++ s2) a w
  | [], a, w, h => hZ a w h.1
  | i :: r, a, w, h => by
    unfold wpOps at h
    rw [List.cons_append]
    unfold wpOpsIn
    cases ho : ops[i]? with
    | none => rw [ho] at h; exact ops_in_then hF hd s2 hZ r a w h
    | some o =>
      rw [ho] at h
      dsimp only at h ⊢
      split
      · rename_i hw
        rw [if_pos hw] at h
        rcases h with h | h
        · have h2 := Oper.wp_mono (K' := wpOpsIn F n P ops Q (r ++ s2)) (fun a' w' h' => ops_in_then hF hd s2 hZ r a' w' h') h
          have h3 : o.wpIn F n P a w (wpOpsIn F n P ops Q (r ++ s2)) (Qn Q Z) := oper_in hF (noDefer_spec hd ho) h2
          refine ⟨h3.1, ?_⟩
          have h4 := h3.2
          generalize (o.semAt F.round a.eval).run P w = x at *
          cases x with
          | ok nx w' =>
            cases nx <;> simp only [Oper.uponIn] at h4 ⊢ <;>
              first
                | exact h4
                | exact ⟨h4.1, CallsIn.mono h4.2 (fun e w'' he => by cases e <;> exact he)⟩
                | exact ⟨h4.1, RowsIn.mono h4.2 (fun _ _ he => he)⟩
                | exact ⟨h4.1, RoundIn.mono h4.2 (fun e w'' he => by cases e <;> exact he)⟩
          | halt x w' => cases x <;> simp only [Oper.uponIn] at h4 ⊢ <;> exact h4
        · exact absurd h.2 Qo_in
      · rename_i hw
        rw [if_neg hw] at h
        exact ⟨fun f _ => hF.fn f, ops_in_then hF hd s2 hZ r _ w h⟩
theorem Run.nilIn (h : Q .normal a w) : Run P ops (Qo Q) [] a w := ⟨h, fun e => by cases e⟩
/-- A region that draws its order, behind a fence. -/
theorem region_drawS_in {F0 : List Nat} {w0 : World} {hp : List Ck} {id m : Nat} (hF : WideF F) (s : List (Nat × Kind)) (W : List Nat) (S : St F0 w0 w hp) (hm : P.follows .mixedOrders = true) (hn : ops.size = m) (hl : Nat.beq s.length m = true)
    (hk : (wOk ops m W && Region.noSelect ops && chk ops m W s 0) = true) (hd : noDefer ops = true) (hQ : ∀ c a d v w, Q (.panic c) (Act.put a (some d) v) w → Q (.panic c) a w)
    (h : ∀ w', St F0 w0 w' hp → Bel w w' → Run P ops (Qo Q) s a w') : (Code.region id ops true).wpIn F n P Q a w := by
  simp only [Bool.and_eq_true] at hk
  obtain ⟨⟨hW, hs⟩, hc⟩ := hk
  refine wpIn_region_draw fun t => ops_in hF hd _ _ _ ?_
  simp only [Region.schedule, hm, Bool.true_or, if_true]
  refine wpAny_sound ops.size t _ a _ ?_
  refine wpAny_of_B (D := (· ∈ firstL s)) _ _ _ _ ?_
  rw [hn, arr_zero]
  refine run_sound hn hW hs (fun c a d v w h => ⟨hQ c a d v w h.1, fun e => by cases e⟩) s 0 m a w.drew (by have := Nat.eq_of_beq_eq_true hl; omega) hc ?_ (h _ S.drew (Below.refl _ _).drew)
  intro j oj _ hb
  rcases Nat.lt_or_ge j m with hj | hj
  · rw [arr_get false hj] at hb; simp at hb
  · rw [arr_out false hj] at hb; cases hb
theorem region_plain_in {id m : Nat} (hF : WideF F) (s : List (Nat × Kind)) (hd : noDefer ops = true) (hn : ops.size = m) (hs : s.map (·.1) = List.range m) (h : Run P ops (Qo Q) s a w) : (Code.region id ops false).wpIn F n P Q a w :=
  wpIn_region (by rw [hn, ← hs]; exact ops_in hF hd _ _ _ (run_plain s a w h))
/-- .. whose first operations s are walked, the others told. -/
theorem region_then_in {id m : Nat} {Z : Act → World → Prop} (hF : WideF F) (s : List (Nat × Kind)) (s2 : List Nat) (hd : noDefer ops = true) (hn : ops.size = m) (hs : s.map (·.1) ++ s2 = List.range m) (h : Run P ops (Qo (Qn Q Z)) s a w) (hZ : ∀ a w, Z a w → wpOpsIn F n P ops Q s2 a w) : (Code.region id ops false).wpIn F n P Q a w :=
  wpIn_region (by rw [hn, ← hs]; exact ops_in_then hF hd s2 hZ _ _ _ (run_plain s a w h))
theorem ops_in_run (hF : WideF F) (hd : noDefer ops = true) (s : List (Nat × Kind)) (h : Run P ops (Qo Q) s a w) : wpOpsIn F n P ops Q (s.map (·.1)) a w := ops_in hF hd _ _ _ (run_plain s a w h)
/-- A call of yield with two values. -/
theorem ops_round2 {N : Nat} {env : List (Nat × Value)} {i d t1 t2 : Nat} {rest : List Nat} {x y z : Operand} {u v : Value} {ty : TypeId} {pos : String} {af : Array Edge} {R : Ending → World → Prop} (hF : WideF F) (hi : ops[i]? = some ⟨some d, .call ⟨.value x, #[y, z], #[t1, t2]⟩, ty, pos, af, none⟩) (E : Env N env a) (hN : Nat.blt d N = true)
    (hx : ev env x = some (.func (.yield l) #[] #[])) (hy : ev env y = some u) (hz : ev env z = some v) (hY : YieldAt F (n - 1) P l #[u, v] w R) (K : ∀ e w', R e w' → ∃ b, e = .returned (.bool b) ∧ ∀ a', Env N ((d, .bool b) :: env) a' → wpOpsIn F n P ops Q rest a' w') : wpOpsIn F n P ops Q (i :: rest) a w := by
  unfold wpOpsIn
  rw [hi]
  dsimp only
  rw [if_pos (by rfl)]
  obtain ⟨fn, tmps, assign, body, hyr, hR⟩ := hY
  refine ⟨fun f _ => hF.fn f, ?_⟩
  rw [Oper.semAt_eq _ _ _ (fun c h => by cases h)]
  have hr : (execOp a.eval ⟨some d, .call ⟨.value x, #[y, z], #[t1, t2]⟩, ty, pos, af, none⟩).run P w = .ok (.round l fn tmps assign body) w := by
    simp [execOp, resolve, E.eval hx, E.eval hy, E.eval hz, invoke, Deferred.ofValue, hyr]
  rw [hr]
  simp only [Oper.uponIn]
  refine ⟨fun hn => (by rw [hF.depth] at hn; cases hn), hR.mono ?_⟩
  intro e w' he
  obtain ⟨b, rfl, hb⟩ := K e w' he
  exact hb _ (E.put (.bool b) hN)
end
/-! memory between two rounds -/
theorem Ck.cells {c : Ck} {w : World} (h : c.holds w) : ∀ k ∈ c.fp, ∃ o : Obj, w.heap[k]? = some o ∧ o.isCells = true := by
  intro k hk
  cases c with
  | obj b ty cs =>
    simp only [Ck.fp, List.mem_singleton] at hk
    subst hk
    exact ⟨_, h, rfl⟩
  | row v e sz n xs =>
    simp only [Ck.fp, Option.mem_toList] at hk
    rcases h.2 with ⟨rfl, _⟩ | ⟨g, cap, cur, rfl, _, hg, _⟩
    · cases hk
    · simp [Value.ownBlock] at hk
      subst hk
      exact ⟨_, hg, rfl⟩
  | rows l =>
    obtain ⟨r, hr, hk⟩ := List.mem_flatMap.1 hk
    simp only [IRow.fp, Option.mem_toList] at hk
    rcases (h r hr).2 with ⟨hv, _⟩ | ⟨g, cap, cur, hv, _, hg, _⟩
    · rw [hv] at hk; cases hk
    · rw [hv] at hk
      simp [Value.ownBlock] at hk
      subst hk
      exact ⟨_, hg, rfl⟩
theorem fps_cells {hp : List Ck} {w : World} (h : ∀ c ∈ hp, c.holds w) : ∀ k ∈ fps hp, ∃ o : Obj, w.heap[k]? = some o ∧ o.isCells = true := by
  intro k hk
  obtain ⟨c, hc, hk⟩ := List.mem_flatMap.1 hk
  exact Ck.cells (h c hc) k hk
/-- The loop's own books are no memory of ours. -/
theorem St.books {F : List Nat} {w0 w w' : World} {hp : List Ck} {B : Nat} (s : St F w0 w hp) (hB : w0.heap.size ≤ B) {row : Option Nat} (hg : w.grownBy w' row) (hr : ∀ r, row = some r → B ≤ r ∧ ∃ o : Obj, w.heap[r]? = some o ∧ o.isCells = false) : St F w0 w' hp := by
  refine ⟨⟨hg.os.trans s.chg.os, hg.tape.trans s.chg.tape, hg.output.trans s.chg.output, Nat.le_trans s.chg.size hg.size, fun k hk hF => ?_⟩, fun c hc => ?_, s.nodup, s.fresh⟩
  · refine (hg.block k (Nat.lt_of_lt_of_le hk s.chg.size) (fun e => ?_)).trans (s.chg.block k hk hF)
    have := (hr k e.symm).1
    omega
  · refine Ck.local (s.all c hc) (fun k hk => hg.block k (Ck.lt (s.all c hc) k hk) (fun e => ?_))
    obtain ⟨_, o, h1, h2⟩ := hr k e.symm
    obtain ⟨o', h3, h4⟩ := Ck.cells (s.all c hc) k hk
    rw [h1] at h3
    cases h3
    rw [h2] at h4
    cases h4
theorem Chg.keeps {hp : List Ck} {w w' : World} (h : Chg (fps hp) w w') (ha : ∀ c ∈ hp, c.holds w) (B : Nat) : KeepsFrom B w w' := by
  refine ⟨h.size, fun k o _ hk ho => ?_⟩
  refine (h.block k (Array.getElem?_eq_some_iff.1 hk).1 (fun hm => ?_)).trans hk
  obtain ⟨o', h3, h4⟩ := fps_cells ha k hm
  rw [hk] at h3
  cases h3
  rw [ho] at h4
  cases h4
/-- The blocks K0 lie as they lay. -/
def Kp (K0 : List Nat) (w w' : World) : Prop := w.heap.size ≤ w'.heap.size ∧ ∀ k ∈ K0, w'.heap[k]? = w.heap[k]?
theorem Kp.trans {K0 : List Nat} {a b c : World} (h : Kp K0 a b) (k : Kp K0 b c) : Kp K0 a c := ⟨Nat.le_trans h.1 k.1, fun i hi => (k.2 i hi).trans (h.2 i hi)⟩
theorem Kp.refl (K0 : List Nat) (w : World) : Kp K0 w w := ⟨Nat.le_refl _, fun _ _ => rfl⟩
theorem Kp.putObj {K0 : List Nat} {w : World} (hK : ∀ k ∈ K0, k < w.heap.size) (W : World) (l : Nat) (o o' : Obj) (hl : w.heap.size ≤ l) (h : W.heap[l]? = some o) (_ : o.isCells = false) (_ : o.isWalk = false) : Kp K0 W (W.putObj l o') := by
  have hg := grownBy_putObj' W l o'
  refine ⟨hg.size, fun k hk => hg.block k ?_ (fun e => ?_)⟩
  · have := (Array.getElem?_eq_some_iff.1 h).1
    have := hK k hk
    omega
  · cases e
    have := hK _ hk
    omega
theorem Kp.cell {K0 : List Nat} {w w' : World} (h : Kp K0 w w') {p : Addr} {v : Value} (hp : p.block ∈ K0) (hc : w.cell? p = some v) : w'.cell? p = some v := (World.cell?_of_block (h.2 _ hp)).trans hc
theorem Chg.kp {F K0 : List Nat} {w w' : World} (h : Chg F w w') (hK : ∀ k ∈ K0, k < w.heap.size ∧ k ∉ F) : Kp K0 w w' := ⟨h.size, fun k hk => h.block k (hK k hk).1 (hK k hk).2⟩
/-! the function's opening and its returns -/
section
variable {P : Program} {Q : Exit → Act → World → Prop} {N : Nat} {env : List (Nat × Value)} {a : Act} {w : World}
/-- Q, and no panic. -/
def Qr (Q : Exit → Act → World → Prop) : Exit → Act → World → Prop
  | .panic _, _, _ => False
  | .outgrown, _, _ => False
  | e, a, w => Q e a w
theorem Qr_le {Q : Exit → Act → World → Prop} : ∀ e a w, Qr Q e a w → Q e a w := by
  intro e a w h
  cases e <;> first | exact h | exact h.elim
theorem fn_startM {f : FuncId} {fn : Func} {c : Code} {args : List Value} {R : Ending → World → Prop} (hf : P.funcs[f]? = some fn) (hb : fn.body = some c) (N : Nat) (hN : Nat.beq fn.ntmps N = true) (ha : Nat.ble args.length N = true)
    (env : List (Nat × Value)) (henv : Has (args[·]?) env) (h : ∀ a, Env N env a → c.wp P (Qr (bodyPostM Fence.wide 3 P fn R)) a w) : Calls P f args.toArray w R := by
  refine (callsIn_wide (n := 3)).1 (callsIn_of_wp_marks hf hb trivial (wpIn_wide.2 (wp_mono (h _ ?_) Qr_le)))
  have e1 := Nat.eq_of_beq_eq_true hN
  have e2 := Nat.le_of_ble_eq_true ha
  rw [e1]
  simp only [List.size_toArray]
  exact Env.start args (N - args.length) N env (by omega) henv.all
theorem fn_startIn {n : Nat} {f : FuncId} {fn : Func} {c : Code} {args : List Value} {R : Ending → World → Prop} (hf : P.funcs[f]? = some fn) (hb : fn.body = some c) (N : Nat) (hN : Nat.beq fn.ntmps N = true) (ha : Nat.ble args.length N = true)
    (env : List (Nat × Value)) (henv : Has (args[·]?) env) (h : ∀ a, Env N env a → c.wpIn Fence.wide n P (bodyPost P fn R) a w) : CallsIn Fence.wide n P f args.toArray w R := by
  refine callsIn_of_wp hf hb trivial (h _ ?_)
  have e1 := Nat.eq_of_beq_eq_true hN
  have e2 := Nat.le_of_ble_eq_true ha
  rw [e1]
  simp only [List.size_toArray]
  exact Env.start args (N - args.length) N env (by omega) henv.all
theorem Run.makeFunc {ops : Array Oper} {dfs : List Deferred} {i d f : Nat} {k : Kind} {r : List (Nat × Kind)} {ty : TypeId} {pos : String} {af : Array Edge} {g : Option (Nat × Bool)} {x : Operand} {v : Value} (hi : ops[i]? = some ⟨some d, .makeFunc (.func f) #[] #[x], ty, pos, af, g⟩) (E : EnvD dfs N env a) (hw : wnt ops env g = true) (hN : Nat.blt d N = true) (hx : ev env x = some v)
    (K : ∀ a', EnvD dfs N ((d, .func (.func f) #[] #[v]) :: env) a' → Run P ops Q r a' w) : Run P ops Q ((i, k) :: r) a w :=
  Run.val hi E hw hN (fun w => by simp [execOp, E.eval hx, Instr.makeFunc]) K
theorem retM1 {fn : Func} {R : Ending → World → Prop} {t : Nat} {v : Value} (E : Env N env a) (hr : fn.results = #[.tmp t]) (h : look env t = some v) (hR : R (.returned v) w) : Qr (bodyPostM Fence.wide 3 P fn R) .ret a w := by
  show LeavesInM _ _ _ _ _ _ a.defers _ _
  rw [E.defers]
  exact ⟨v, (results_tmp hr _ _ _).trans (by rw [E.slot t v h]), hR⟩
theorem retM1' {fn : Func} {R : Ending → World → Prop} {t D : Nat} {v : Value} (E : EnvD [{ target := .collected D, args := #[] }] N env a) (hK : w.heap[D]? = some (.deferred (some []))) (hr : fn.results = #[.tmp t]) (h : look env t = some v) (hR : R (.returned v) (w.putObj D (.deferred none))) : Qr (bodyPostM Fence.wide 3 P fn R) .ret a w := by
  show LeavesInM _ _ _ _ _ _ a.defers _ _
  rw [E.defers]
  refine ⟨by simp, .inl ⟨_, _, rfl, run_takeDeferred hK, ?_⟩⟩
  exact ⟨v, (results_tmp hr _ _ _).trans (by rw [E.slot t v h]), hR⟩
theorem St.taken {F : List Nat} {w0 : World} {hp : List Ck} {D : Nat} {o' : Obj} (s : St F w0 w hp) (hD : w0.heap.size ≤ D) (hK : w.heap[D]? = some (.deferred (some []))) : St F w0 (w.putObj D o') hp :=
  s.books hD (grownBy_putObj' w D o') (fun r e => by cases e; exact ⟨Nat.le_refl _, _, hK, rfl⟩)
theorem EnvD.deferred {ds ds' : List Deferred} (E : EnvD ds N env a) : EnvD ds' N env { a with defers := ds' } := ⟨E.size, rfl, E.slot⟩
theorem cond_T_in {F : Fence} {n : Nat} {c : Operand} {x y : Code} (E : Env N env a) (hc : ev env c = some (.bool true)) (h : x.wpIn F n P Q a w) : (Code.cond c x y).wpIn F n P Q a w := wpIn_cond_true (E.eval hc) h
theorem cond_F_in {F : Fence} {n : Nat} {c : Operand} {x y : Code} (E : Env N env a) (hc : ev env c = some (.bool false)) (h : y.wpIn F n P Q a w) : (Code.cond c x y).wpIn F n P Q a w := wpIn_cond_false (E.eval hc) h
end
end Go.Proofs.Ytlcglefbhlhcpaa.K
