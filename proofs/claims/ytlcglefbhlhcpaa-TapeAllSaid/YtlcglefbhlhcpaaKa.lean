/- A walk of my own: regions by a script, frames by their known slots. Nothing here names the program. -/
import Derived.Orders
import Derived.OrdersHeld
import Derived.Below
import Derived.IntWalk
import Derived.KernelRfl
import Derived.Deep.LoopGhost
import Derived.Maps.AppendAt
import Derived.Laws.OwnMore
namespace Go.Proofs.Ytlcglefbhlhcpaa.K
open Go.RowKit
set_option linter.unusedVariables false

/-! ### 1. What is known of a frame -/
def look : List (Nat × Value) → Nat → Option Value
  | [], _ => none
  | (s, v) :: r, t => bif Nat.beq s t then some v else look r t
/-- The frame has N slots, ds deferred calls, and in the slots of env what env says. -/
structure EnvD (dfs : List Deferred) (N : Nat) (env : List (Nat × Value)) (a : Act) : Prop where
  size : a.tmps.size = N
  defers : a.defers = dfs
  slot : ∀ t v, look env t = some v → a.tmps.getD t undef = v
abbrev Env := EnvD []
def ev (env : List (Nat × Value)) : Operand → Option Value
  | .tmp t => look env t
  | .const v => some v
  | .global g => some (.pointer (some ⟨g, 0, none⟩))
  | .func f => some (.func (.func f) #[] #[])
theorem EnvD.eval {dfs : List Deferred} {N : Nat} {env : List (Nat × Value)} {a : Act} (E : EnvD dfs N env a) {x : Operand} {v : Value} (h : ev env x = some v) : a.eval x = v := by
  cases x with
  | tmp t => exact E.slot t v h
  | const u => exact Option.some.inj h
  | global g => exact Option.some.inj h
  | func f => exact Option.some.inj h
theorem EnvD.put {dfs : List Deferred} {N : Nat} {env : List (Nat × Value)} {a : Act} (E : EnvD dfs N env a) {d : Nat} (v : Value) (hd : Nat.blt d N = true) : EnvD dfs N ((d, v) :: env) (a.put (some d) v) := by
  have hd' : d < a.tmps.size := by rw [E.size]; simpa [Nat.blt_eq] using hd
  refine ⟨by simp [Act.put, E.size], E.defers, ?_⟩
  intro t u h
  unfold look at h
  by_cases e : d = t
  · subst e
    simp only [Nat.beq_refl, cond_true, Option.some.injEq] at h
    subst h
    simp [Act.put, hd']
  · have hb : Nat.beq d t = false := by
      cases hh : Nat.beq d t with
      | false => rfl
      | true => exact absurd (Nat.eq_of_beq_eq_true hh) e
    rw [hb] at h
    have := E.slot t u h
    simp only [Act.put]
    rw [← this]
    simp [Array.getElem?_setIfInBounds_ne e]
/-- Fewer slots, in whatever order. -/
theorem EnvD.keep {dfs : List Deferred} {N : Nat} {env : List (Nat × Value)} {a : Act} (E : EnvD dfs N env a) (env' : List (Nat × Value)) (h : ∀ p ∈ env', look env p.1 = some p.2) : EnvD dfs N env' a := by
  refine ⟨E.size, E.defers, fun t v hv => E.slot t v ?_⟩
  induction env' with
  | nil => cases hv
  | cons p r ih =>
    obtain ⟨s, u⟩ := p
    unfold look at hv
    cases hb : Nat.beq s t with
    | true =>
      rw [hb] at hv
      obtain rfl : u = v := Option.some.inj hv
      obtain rfl : s = t := Nat.eq_of_beq_eq_true hb
      exact h (s, u) List.mem_cons_self
    | false =>
      rw [hb] at hv
      exact ih (fun q hq => h q (List.mem_cons_of_mem _ hq)) hv
/-- The slots ts of env. -/
def picks (env : List (Nat × Value)) : List Nat → List (Nat × Value) → Prop
  | [], l => l = []
  | t :: ts, l => ∃ v l', l = (t, v) :: l' ∧ look env t = some v ∧ picks env ts l'
theorem Env.start (args : List Value) (n N : Nat) (env : List (Nat × Value)) (hN : args.length + n = N)
    (h : ∀ p ∈ env, args[p.1]? = some p.2) : Env N env { tmps := args.toArray ++ Array.replicate n undef, defers := [] } := by
  have hE : Env N (env) { tmps := args.toArray ++ Array.replicate n undef, defers := [] } := by
    refine ⟨by simp [hN], rfl, ?_⟩
    intro t v hv
    have hm : (t, v) ∈ env := by
      clear h
      induction env with
      | nil => cases hv
      | cons p r ih =>
        obtain ⟨s, u⟩ := p
        unfold look at hv
        cases hb : Nat.beq s t with
        | true =>
          rw [hb] at hv
          obtain rfl : u = v := Option.some.inj hv
          obtain rfl : s = t := Nat.eq_of_beq_eq_true hb
          exact List.mem_cons_self
        | false =>
          rw [hb] at hv
          exact List.mem_cons_of_mem _ (ih hv)
    have h1 := h _ hm
    have hlt : t < args.length := (List.getElem?_eq_some_iff.1 h1).1
    simp only [Array.getD_eq_getD_getElem?]
    rw [Array.getElem?_append_left (by simpa using hlt)]
    simp [h1]
  exact hE

/-! ### 2. A region by a script -/
/-- p: yields whatever the world; t: reads, and what it reads stands; e: calls, makes memory, turns no block that was there; l: whatever. -/
inductive Kind where | p | t | e | l
  deriving DecidableEq
def Bel (w : World) (w' : World) : Prop := Below w.heap.size w w'
def Run (P : Program) (ops : Array Oper) (Q : Exit → Act → World → Prop) : List (Nat × Kind) → Act → World → Prop
  | [], a, w => Q .normal a w
  | (i, .p) :: r, a, w => ∃ oi v, ops[i]? = some oi ∧ Yields P ops oi v a ∧ Run P ops Q r (a.put oi.dst v) w
  | (i, .t) :: r, a, w => ∃ oi v, ops[i]? = some oi ∧ YieldsIf P ops (Bel w) oi v a ∧ Run P ops Q r (a.put oi.dst v) w
  | (i, .e) :: r, a, w => wpOp P ops Q i (fun a' w' => Bel w w' ∧ Run P ops Q r a' w') a w
  | (i, .l) :: r, a, w => wpOp P ops Q i (fun a' w' => Run P ops Q r a' w') a w
def bindsAny (e : Edge) : Bool := match e.ground with | .textOnly _ => false | .gcOnly _ => false | _ => true
theorem binds_any (e : Edge) : Region.binds .any e = bindsAny e := by
  unfold Region.binds bindsAny
  split <;> simp_all

section
variable {P : Program} {ops : Array Oper} {Q : Exit → Act → World → Prop}
/-- As 'wpAny', and an operation that is no exception turns no block that was there. -/
def wpB (P : Program) (ops : Array Oper) (Q : Exit → Act → World → Prop) (D : Nat → Prop) : Nat → Array Bool → Act → World → Prop
  | 0, listed, a, w => Region.ready .any ops listed = [] ∧ Q .normal a w
  | fuel + 1, listed, a, w =>
    (Region.ready .any ops listed = [] → Q .normal a w) ∧
    ∀ i ∈ Region.ready .any ops listed, wpOp P ops Q i (fun a' w' => (¬ D i → Bel w w') ∧ wpB P ops Q D fuel (listed.setIfInBounds i true) a' w') a w
theorem wpAny_of_B {D : Nat → Prop} : ∀ (fuel : Nat) (listed : Array Bool) (a : Act) (w : World), wpB P ops Q D fuel listed a w → wpAny P .any ops Q fuel listed a w
  | 0, _, _, _, h => h
  | fuel + 1, _, _, _, h => ⟨h.1, fun i hi => wpOp_mono (fun a' w' h' => wpAny_of_B fuel _ a' w' h'.2) (h.2 i hi)⟩
theorem ready_lt {listed : Array Bool} {i : Nat} (hi : i ∈ Region.ready .any ops listed) : i < ops.size := by
  obtain ⟨_, o, ho, _⟩ := mem_ready.1 hi
  exact (Array.getElem?_eq_some_iff.1 ho).1
/-- Where all that is left is an exception, nothing is owed. -/
theorem wpB_free {D D' : Nat → Prop} : ∀ (fuel : Nat) (listed : Array Bool) (a : Act) (w : World), (∀ j, j < ops.size → listed.getD j true = false → D' j) →
    wpB P ops Q D fuel listed a w → wpB P ops Q D' fuel listed a w
  | 0, _, _, _, _, h => h
  | fuel + 1, listed, _, _, hD, h => ⟨h.1, fun i hi => wpOp_mono (fun a' w' h' => ⟨fun hn => absurd (hD i (ready_lt hi) (mem_ready.1 hi).1) hn,
      wpB_free fuel _ a' w' (fun j hj hl => hD j hj (by
        by_cases e : i = j
        · subst e; exact (mem_ready.1 hi).1
        · rwa [getD_set_ne true e] at hl)) h'.2⟩) (h.2 i hi)⟩
def Closed (ops : Array Oper) (listed : Array Bool) : Prop :=
  ∀ j oj, ops[j]? = some oj → listed.getD j false = true → ∀ e ∈ oj.after, Region.binds .any e = true → listed.getD e.on false = true
theorem Closed.set {listed : Array Bool} {i : Nat} (h : Closed ops listed) (hi : i ∈ Region.ready .any ops listed) : Closed ops (listed.setIfInBounds i true) := by
  obtain ⟨_, oi, hoi, hall⟩ := mem_ready.1 hi
  intro j oj hj hl e he hb
  by_cases hij : i = j
  · subst hij
    have : oj = oi := Option.some.inj (hj.symm.trans hoi)
    subst this
    exact getD_set_true (hall e he hb)
  · rw [getD_set_ne false hij] at hl
    exact getD_set_true (h j oj hj hl e he hb)
theorem unlisted_false {listed : Array Bool} {i : Nat} (h : listed.getD i true = false) : listed.getD i false = false := by
  rcases Nat.lt_or_ge i listed.size with h' | h'
  · simp [h'] at h ⊢; exact h
  · simp [Array.getElem?_eq_none h']
theorem not_after {listed : Array Bool} {i : Nat} {oj : Oper} (hiun : listed.getD i true = false) (hall : ∀ e ∈ oj.after, Region.binds .any e = true → listed.getD e.on false = true) :
    ∀ e ∈ oj.after, Region.binds .any e = true → e.on ≠ i := fun e he hb heq => by
  have h1 := hall e he hb
  rw [heq, unlisted_false hiun] at h1
  cases h1
/-- Take number i first: what it yields stands as long as no block is turned. -/
theorem wpB_first {i : Nat} {oi : Oper} {v : Value} {D : Nat → Prop} {S : World → Prop} (hS : ∀ w w', S w → Bel w w' → S w') (hi : ops[i]? = some oi) (hsel : ∀ (j : Nat) (o : Oper) cs b, ops[j]? = some o → o.op ≠ .select cs b)
    (hQ : ∀ c a w, Q (.panic c) (a.put oi.dst v) w → Q (.panic c) a w) :
    ∀ (fuel : Nat) (listed : Array Bool) (a : Act) (w : World),
      (∀ j oj, ops[j]? = some oj → j ≠ i → listed.getD j true = false → (∀ e ∈ oj.after, Region.binds .any e = true → e.on ≠ i) → oi.apart ops oj = true) →
      Closed ops listed → (∀ d, D d → ∀ L, Closed ops L → L.getD i true = false → d ∉ Region.ready .any ops L) →
      i ∈ Region.ready .any ops listed → YieldsIf P ops S oi v a → S w →
      wpB P ops Q D fuel (listed.setIfInBounds i true) (a.put oi.dst v) w → wpB P ops Q D (fuel + 1) listed a w := by
  intro fuel
  induction fuel with
  | zero =>
    intro listed a w _ _ _ hr hy hSw H
    refine ⟨fun h => (by rw [h] at hr; cases hr), fun j hj => ?_⟩
    by_cases hji : j = i
    · subst hji; exact hy.wpOp hi hSw ⟨fun _ => Below.refl _ _, H⟩
    · have := ready_mono hj hji
      rw [H.1] at this
      cases this
  | succ fuel ih =>
    intro listed a w hfree hc hd hr hy hSw H
    refine ⟨fun h => (by rw [h] at hr; cases hr), fun j hj => ?_⟩
    by_cases hji : j = i
    · subst hji; exact hy.wpOp hi hSw ⟨fun _ => Below.refl _ _, H⟩
    · have h1 := H.2 j (ready_mono hj hji)
      obtain ⟨hjun, oj, hoj, hall⟩ := mem_ready.1 hj
      have hiun := (mem_ready.1 hr).1
      have hnot := not_after hiun hall
      have hjd : ¬ D j := fun hm => hd j hm listed hc hiun hj
      have h2 := wpOp_putIf hoj (hfree j oj hoj hji hjun hnot) (fun cs b => hsel i oi cs b hi) (fun cs b => hsel j oj cs b hoj) hQ hy h1
      have hfree' : ∀ k ok, ops[k]? = some ok → k ≠ i → (listed.setIfInBounds j true).getD k true = false →
          (∀ e ∈ ok.after, Region.binds .any e = true → e.on ≠ i) → oi.apart ops ok = true := fun k ok hk hki hun hno => by
        refine hfree k ok hk hki ?_ hno
        by_cases hjk : j = k
        · subst hjk; exact hjun
        · rw [getD_set_ne true hjk] at hun; exact hun
      refine wpOp_mono (fun a' w' h3 => ⟨h3.2.1, ih (listed.setIfInBounds j true) a' w' hfree' (hc.set hj) hd (ready_mono hr (Ne.symm hji)) h3.1 (hS _ _ hSw (h3.2.1 hjd)) ?_⟩) h2
      rw [Array.setIfInBounds_comm _ _ hji]
      exact h3.2.2
/-- Take number i first, which yields whatever the world. -/
theorem wpB_any {i : Nat} {oi : Oper} {v : Value} {D : Nat → Prop} (hi : ops[i]? = some oi) (hsel : ∀ (j : Nat) (o : Oper) cs b, ops[j]? = some o → o.op ≠ .select cs b)
    (hQ : ∀ c a w, Q (.panic c) (a.put oi.dst v) w → Q (.panic c) a w) :
    ∀ (fuel : Nat) (listed : Array Bool) (a : Act) (w : World),
      (∀ j oj, ops[j]? = some oj → j ≠ i → listed.getD j true = false → (∀ e ∈ oj.after, Region.binds .any e = true → e.on ≠ i) → oi.apart ops oj = true) →
      i ∈ Region.ready .any ops listed → Yields P ops oi v a →
      wpB P ops Q D fuel (listed.setIfInBounds i true) (a.put oi.dst v) w → wpB P ops Q D (fuel + 1) listed a w := by
  intro fuel
  induction fuel with
  | zero =>
    intro listed a w _ hr hy H
    refine ⟨fun h => (by rw [h] at hr; cases hr), fun j hj => ?_⟩
    by_cases hji : j = i
    · subst hji; exact (hy.yieldsIf (S := fun _ => True)).wpOp hi trivial ⟨fun _ => Below.refl _ _, H⟩
    · have := ready_mono hj hji
      rw [H.1] at this
      cases this
  | succ fuel ih =>
    intro listed a w hfree hr hy H
    refine ⟨fun h => (by rw [h] at hr; cases hr), fun j hj => ?_⟩
    by_cases hji : j = i
    · subst hji; exact (hy.yieldsIf (S := fun _ => True)).wpOp hi trivial ⟨fun _ => Below.refl _ _, H⟩
    · have h1 := H.2 j (ready_mono hj hji)
      obtain ⟨hjun, oj, hoj, hall⟩ := mem_ready.1 hj
      have hiun := (mem_ready.1 hr).1
      have hnot := not_after hiun hall
      have h2 := wpOp_put hoj (hfree j oj hoj hji hjun hnot) (fun cs b => hsel i oi cs b hi) (fun cs b => hsel j oj cs b hoj) hQ hy h1
      have hfree' : ∀ k ok, ops[k]? = some ok → k ≠ i → (listed.setIfInBounds j true).getD k true = false →
          (∀ e ∈ ok.after, Region.binds .any e = true → e.on ≠ i) → oi.apart ops ok = true := fun k ok hk hki hun hno => by
        refine hfree k ok hk hki ?_ hno
        by_cases hjk : j = k
        · subst hjk; exact hjun
        · rw [getD_set_ne true hjk] at hun; exact hun
      refine wpOp_mono (fun a' w' h3 => ⟨h3.2.1, ih (listed.setIfInBounds j true) a' w' hfree' (ready_mono hr (Ne.symm hji)) h3.1 ?_⟩) h2
      rw [Array.setIfInBounds_comm _ _ hji]
      exact h3.2.2
end

/-! ### 3. The script is sound -/
/-- The operations from the first 'l' on. -/
def firstL : List (Nat × Kind) → List Nat
  | [] => []
  | (i, .l) :: r => i :: r.map (·.1)
  | _ :: r => firstL r
def arr (n m : Nat) : Array Bool := ((List.range n).map fun j => m.testBit j).toArray
theorem size_arr (n m : Nat) : (arr n m).size = n := by simp [arr]
theorem arr_get {n m j : Nat} (d : Bool) (h : j < n) : (arr n m).getD j d = m.testBit j := by
  simp [arr, h]
theorem arr_out {n m j : Nat} (d : Bool) (h : n ≤ j) : (arr n m).getD j d = d := by
  simp [arr, Nat.not_lt.2 h]
theorem arr_set {n m i : Nat} : (arr n m).setIfInBounds i true = arr n (m ||| 2 ^ i) := by
  apply Array.ext
  · simp [arr]
  · intro j h1 h2
    have hj : j < n := by simpa [arr] using h2
    by_cases e : i = j
    · subst e; simp [arr]
    · simp [arr, e, Nat.testBit_two_pow_of_ne e]
theorem arr_zero (n : Nat) : Array.replicate n false = arr n 0 := by
  apply Array.ext
  · simp [arr]
  · intro j h1 h2; simp [arr]
def rdy (ops : Array Oper) (n m i : Nat) : Bool := !m.testBit i && match ops[i]? with
  | some o => o.after.all fun e => !bindsAny e || (Nat.blt e.on n && m.testBit e.on)
  | none => false
def lone1 (ops : Array Oper) (n m i : Nat) : Bool := (List.range n).all fun j => Nat.beq j i || !rdy ops n m j
def freeB (ops : Array Oper) (n m i : Nat) : Bool := match ops[i]? with
  | none => false
  | some oi => (List.range n).all fun j => Nat.beq j i || m.testBit j || match ops[j]? with
    | some oj => oj.after.any (fun e => bindsAny e && Nat.beq e.on i) || oi.apart ops oj
    | none => true
def chk (ops : Array Oper) (n : Nat) (W : List Nat) : List (Nat × Kind) → Nat → Bool
  | [], m => (List.range n).all fun j => m.testBit j
  | (i, .p) :: r, m => rdy ops n m i && freeB ops n m i && chk ops n W r (m ||| 2 ^ i)
  | (i, .t) :: r, m => rdy ops n m i && freeB ops n m i && (firstL r).all (fun d => (W.getD d 0).testBit i) && chk ops n W r (m ||| 2 ^ i)
  | (i, .e) :: r, m => rdy ops n m i && lone1 ops n m i && chk ops n W r (m ||| 2 ^ i)
  | (i, .l) :: r, m => rdy ops n m i && lone1 ops n m i && chk ops n W r (m ||| 2 ^ i)
def wOk (ops : Array Oper) (n : Nat) (W : List Nat) : Bool := (List.range n).all fun d => match ops[d]? with
  | some o => (W.getD d 0 == o.after.toList.foldl (fun s e => bif bindsAny e then s ||| (2 ^ e.on ||| W.getD e.on 0) else s) 0) && o.after.toList.all (fun e => !bindsAny e || Nat.blt e.on d)
  | none => true
section
variable {P : Program} {ops : Array Oper} {Q : Exit → Act → World → Prop}
theorem rdy_iff {n m i : Nat} (hn : ops.size = n) : i ∈ Region.ready .any ops (arr n m) ↔ rdy ops n m i = true := by
  rw [mem_ready]
  unfold rdy
  cases ho : ops[i]? with
  | none => simp
  | some o =>
    have hlt : i < n := hn ▸ (Array.getElem?_eq_some_iff.1 ho).1
    simp only [arr_get true hlt, Option.some.injEq, exists_eq_left', Bool.and_eq_true, Bool.not_eq_true', Array.all_eq_true_iff_forall_mem, Bool.or_eq_true, binds_any]
    refine and_congr Iff.rfl ?_
    refine forall_congr' fun e => forall_congr' fun he => ?_
    rcases Nat.lt_or_ge e.on n with h | h
    · rw [arr_get false h]
      have : Nat.blt e.on n = true := by simpa [Nat.blt_eq] using h
      rw [this]
      cases bindsAny e <;> simp
    · rw [arr_out false h]
      have : Nat.blt e.on n = false := by
        cases hh : Nat.blt e.on n with
        | false => rfl
        | true => rw [Nat.blt_eq] at hh; omega
      rw [this]
      cases bindsAny e <;> simp
theorem fold_bit {i : Nat} (f : Edge → Nat) (l : List Edge) : ∀ s : Nat, (l.foldl (fun s e => bif bindsAny e then s ||| f e else s) s).testBit i = true →
    s.testBit i = true ∨ ∃ e ∈ l, bindsAny e = true ∧ (f e).testBit i = true := by
  induction l with
  | nil => intro s h; exact .inl h
  | cons e l ih =>
    intro s h
    rcases ih _ h with h1 | ⟨e', he', hb, h2⟩
    · dsimp only at h1
      cases hb : bindsAny e with
      | false => rw [hb] at h1; exact .inl h1
      | true =>
        rw [hb] at h1
        simp only [cond_true, Nat.testBit_or, Bool.or_eq_true] at h1
        rcases h1 with h1 | h1
        · exact .inl h1
        · exact .inr ⟨e, List.mem_cons_self, hb, h1⟩
    · exact .inr ⟨e', List.mem_cons_of_mem _ he', hb, h2⟩
theorem w_listed {n : Nat} {W : List Nat} (hn : ops.size = n) (hW : wOk ops n W = true) {L : Array Bool} (hc : Closed ops L) (i : Nat) : ∀ d o, ops[d]? = some o →
    (∀ e ∈ o.after, Region.binds .any e = true → L.getD e.on false = true) → (W.getD d 0).testBit i = true → L.getD i false = true := by
  intro d
  induction d using Nat.strongRecOn with
  | _ d ih =>
    intro o ho hall hb
    have hlt : d < n := hn ▸ (Array.getElem?_eq_some_iff.1 ho).1
    have h1 := List.all_eq_true.1 hW d (List.mem_range.2 hlt)
    rw [ho] at h1
    simp only [Bool.and_eq_true, beq_iff_eq] at h1
    rw [h1.1] at hb
    rcases fold_bit (fun e => 2 ^ e.on ||| W.getD e.on 0) _ _ hb with h2 | ⟨e, he, hbe, h2⟩
    · simp at h2
    · have he' : e ∈ o.after := by simpa using he
      have hL := hall e he' (by rw [binds_any]; exact hbe)
      simp only [Nat.testBit_or, Bool.or_eq_true] at h2
      rcases h2 with h2 | h2
      · rw [Nat.testBit_two_pow] at h2
        have : e.on = i := by simpa using h2
        rw [← this]; exact hL
      · have hlt' : e.on < d := by
          have := List.all_eq_true.1 h1.2 e he
          rw [hbe] at this
          simpa [Nat.blt_eq] using this
        have hlt2 : e.on < ops.size := by omega
        obtain ⟨o', ho'⟩ : ∃ o', ops[e.on]? = some o' := ⟨_, Array.getElem?_eq_getElem hlt2⟩
        exact ih e.on hlt' o' ho' (fun e' he'' hb' => hc e.on o' ho' hL e' he'' hb') h2
theorem free_spec {n m i : Nat} {oi : Oper} (hn : ops.size = n) (hi : ops[i]? = some oi) (h : freeB ops n m i = true) (j : Nat) (oj : Oper)
    (hj : ops[j]? = some oj) (hne : j ≠ i) (hun : (arr n m).getD j true = false) (hno : ∀ e ∈ oj.after, Region.binds .any e = true → e.on ≠ i) :
    oi.apart ops oj = true := by
  have hlt : j < n := hn ▸ (Array.getElem?_eq_some_iff.1 hj).1
  rw [arr_get true hlt] at hun
  unfold freeB at h
  rw [hi] at h
  have h1 := List.all_eq_true.1 h j (List.mem_range.2 hlt)
  have hb : Nat.beq j i = false := by
    cases hh : Nat.beq j i with
    | false => rfl
    | true => exact absurd (Nat.eq_of_beq_eq_true hh) hne
  simp only [hb, hun, Bool.false_or, hj, Bool.or_eq_true] at h1
  rcases h1 with h1 | h1
  · obtain ⟨e, he, hh⟩ := Array.any_eq_true'.1 h1
    simp only [Bool.and_eq_true] at hh
    exact absurd (Nat.eq_of_beq_eq_true hh.2) (hno e he (by rw [binds_any]; exact hh.1))
  · exact h1
theorem lone_spec {n m i : Nat} (hn : ops.size = n) (h : lone1 ops n m i = true) {j : Nat} (hj : j ∈ Region.ready .any ops (arr n m)) : j = i := by
  have hlt := ready_lt hj
  have h1 := List.all_eq_true.1 h j (List.mem_range.2 (hn ▸ hlt))
  rw [(rdy_iff hn).1 hj] at h1
  simp only [Bool.not_true, Bool.or_false] at h1
  exact Nat.eq_of_beq_eq_true h1
theorem chk_map {n : Nat} {W : List Nat} : ∀ (s : List (Nat × Kind)) (m : Nat), chk ops n W s m = true → ∀ j, j < n → m.testBit j = false → j ∈ s.map (·.1)
  | [], m, h, j, hj, hb => by
    have := List.all_eq_true.1 h j (List.mem_range.2 hj)
    rw [hb] at this
    cases this
  | (i, k) :: r, m, h, j, hj, hb => by
    have hr : chk ops n W r (m ||| 2 ^ i) = true := by
      cases k <;> simp only [chk, Bool.and_eq_true] at h <;> first | exact h.2
    by_cases e : i = j
    · subst e; exact List.mem_cons_self
    · refine List.mem_cons_of_mem _ (chk_map r _ hr j hj ?_)
      simp [hb, Nat.testBit_two_pow_of_ne e]
theorem run_sound {n : Nat} {W : List Nat} (hn : ops.size = n) (hW : wOk ops n W = true) (hs : Region.noSelect ops = true) (hQ : ∀ c a d v w, Q (.panic c) (Act.put a (some d) v) w → Q (.panic c) a w) :
    ∀ (s : List (Nat × Kind)) (m fuel : Nat) (a : Act) (w : World), s.length ≤ fuel → chk ops n W s m = true → Closed ops (arr n m) → Run P ops Q s a w → wpB P ops Q (· ∈ firstL s) fuel (arr n m) a w := by
  have hQ' : ∀ (oi : Oper) (v : Value) c a w, Q (.panic c) (a.put oi.dst v) w → Q (.panic c) a w := by
    intro oi v c a w h
    cases hd : oi.dst with
    | none => rw [hd] at h; exact h
    | some d => rw [hd] at h; exact hQ c a d v w h
  have nil : ∀ (m fuel : Nat) (a : Act) (w : World), chk ops n W [] m = true → Q .normal a w → wpB P ops Q (· ∈ firstL []) fuel (arr n m) a w := by
    intro m fuel a w h hq
    have hr : Region.ready .any ops (arr n m) = [] := by
      rw [List.eq_nil_iff_forall_not_mem]
      intro j hj
      have hlt := ready_lt hj
      have h1 := List.all_eq_true.1 h j (List.mem_range.2 (hn ▸ hlt))
      have h2 := (mem_ready.1 hj).1
      rw [arr_get true (hn ▸ hlt), h1] at h2
      cases h2
    cases fuel with
    | zero => exact ⟨hr, hq⟩
    | succ k => exact ⟨fun _ => hq, fun j hj => by rw [hr] at hj; cases hj⟩
  intro s
  induction s with
  | nil => intro m fuel a w _ h _ hq; exact nil m fuel a w h hq
  | cons x r ih =>
    obtain ⟨i, k⟩ := x
    intro m fuel a w hf h hc hrun
    obtain ⟨fuel, rfl⟩ : ∃ f, fuel = f + 1 := ⟨fuel - 1, by simp at hf; omega⟩
    have hf' : r.length ≤ fuel := by simp at hf; omega
    cases k with
    | p =>
      simp only [chk, Bool.and_eq_true] at h
      obtain ⟨⟨h1, h2⟩, h3⟩ := h
      obtain ⟨oi, v, hoi, hy, hrest⟩ := hrun
      have hi := (rdy_iff hn).2 h1
      refine wpB_any hoi (Region.noSelect_spec hs) (hQ' oi v) fuel _ a w (free_spec hn hoi h2) hi hy ?_
      rw [arr_set]
      exact ih _ fuel _ w hf' h3 (by rw [← arr_set]; exact hc.set hi) hrest
    | t =>
      simp only [chk, Bool.and_eq_true] at h
      obtain ⟨⟨⟨h1, h2⟩, h4⟩, h3⟩ := h
      obtain ⟨oi, v, hoi, hy, hrest⟩ := hrun
      have hi := (rdy_iff hn).2 h1
      refine wpB_first (S := Bel w) (fun a b h k => h.trans (k.mono h.size)) hoi (Region.noSelect_spec hs) (hQ' oi v) fuel _ a w (free_spec hn hoi h2) hc ?_ hi hy (Below.refl _ _) ?_
      · intro d hd L hL hun hdr
        obtain ⟨_, o, ho, hall⟩ := mem_ready.1 hdr
        have := w_listed hn hW hL i d o ho hall (List.all_eq_true.1 h4 d hd)
        rw [unlisted_false hun] at this
        cases this
      · rw [arr_set]
        exact ih _ fuel _ w hf' h3 (by rw [← arr_set]; exact hc.set hi) hrest
    | e =>
      simp only [chk, Bool.and_eq_true] at h
      obtain ⟨⟨h1, h2⟩, h3⟩ := h
      have hi := (rdy_iff hn).2 h1
      refine ⟨fun h0 => (by rw [h0] at hi; cases hi), fun j hj => ?_⟩
      obtain rfl := lone_spec hn h2 hj
      refine wpOp_mono (fun a' w' hh => ⟨fun _ => hh.1, ?_⟩) hrun
      rw [arr_set]
      exact ih _ fuel _ w' hf' h3 (by rw [← arr_set]; exact hc.set hi) hh.2
    | l =>
      simp only [chk, Bool.and_eq_true] at h
      obtain ⟨⟨h1, h2⟩, h3⟩ := h
      have hi := (rdy_iff hn).2 h1
      refine ⟨fun h0 => (by rw [h0] at hi; cases hi), fun j hj => ?_⟩
      obtain rfl := lone_spec hn h2 hj
      refine wpOp_mono (fun a' w' hh => ⟨fun hd => absurd (List.mem_cons_self) hd, ?_⟩) hrun
      rw [arr_set]
      refine wpB_free fuel _ a' w' ?_ (ih _ fuel _ w' hf' h3 (by rw [← arr_set]; exact hc.set hi) hh)
      intro q hq hl
      rw [arr_get true (hn ▸ hq)] at hl
      exact List.mem_cons_of_mem _ (chk_map r _ h3 q (hn ▸ hq) hl)
/-- A region that draws its order, by a script. -/
theorem region_draw {id n : Nat} (s : List (Nat × Kind)) (W : List Nat) {a : Act} {w : World} (hm : P.follows .mixedOrders = true) (hn : ops.size = n) (hl : Nat.beq s.length n = true)
    (hk : (wOk ops n W && Region.noSelect ops && chk ops n W s 0) = true) (hQ : ∀ c a d v w, Q (.panic c) (Act.put a (some d) v) w → Q (.panic c) a w)
    (h : Run P ops Q s a w.drew) : (Code.region id ops true).wp P Q a w := by
  simp only [Bool.and_eq_true] at hk
  obtain ⟨⟨hW, hs⟩, hc⟩ := hk
  refine wp_region_any hm (wpAny_of_B (D := (· ∈ firstL s)) _ _ _ _ ?_)
  rw [hn, arr_zero]
  refine run_sound hn hW hs hQ s 0 n a w.drew (by have := Nat.eq_of_beq_eq_true hl; omega) hc ?_ h
  intro j oj _ hb
  rcases Nat.lt_or_ge j n with hj | hj
  · rw [arr_get false hj] at hb; simp at hb
  · rw [arr_out false hj] at hb; cases hb
/-- A plain region, by a script. -/
theorem run_plain : ∀ (s : List (Nat × Kind)) (a : Act) (w : World), Run P ops Q s a w → wpOps P ops Q (s.map (·.1)) a w
  | [], a, w, h => h
  | (i, .p) :: r, a, w, h => by
    obtain ⟨oi, v, hi, hy, hr⟩ := h
    rw [List.map_cons, wpOps_cons]
    exact Yields.wpOp hi hy (run_plain r _ w hr)
  | (i, .t) :: r, a, w, h => by
    obtain ⟨oi, v, hi, hy, hr⟩ := h
    rw [List.map_cons, wpOps_cons]
    exact YieldsIf.wpOp hi hy (Below.refl _ _) (run_plain r _ w hr)
  | (i, .e) :: r, a, w, h => by
    rw [List.map_cons, wpOps_cons]
    exact wpOp_mono (fun a' w' hh => run_plain r a' w' hh.2) h
  | (i, .l) :: r, a, w, h => by
    rw [List.map_cons, wpOps_cons]
    exact wpOp_mono (fun a' w' hh => run_plain r a' w' hh) h
theorem region_plain {id n : Nat} (s : List (Nat × Kind)) {a : Act} {w : World} (hn : ops.size = n) (hs : s.map (·.1) = List.range n) (h : Run P ops Q s a w) : (Code.region id ops false).wp P Q a w :=
  wp_region (by rw [hn, ← hs]; exact run_plain s a w h)
end
end Go.Proofs.Ytlcglefbhlhcpaa.K
