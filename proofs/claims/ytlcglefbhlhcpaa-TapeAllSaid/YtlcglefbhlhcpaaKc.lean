/- The operations of a region, one lemma each. -/
import Derived.Test.YtlcglefbhlhcpaaKb
namespace Go.Proofs.Ytlcglefbhlhcpaa.K
open Go.RowKit
set_option linter.unusedVariables false

/-! ### 5. Whether a guarded operation is carried out -/
def wnt (ops : Array Oper) (env : List (Nat × Value)) : Option (Nat × Bool) → Bool
  | none => true
  | some (j, want) => match (ops[j]?).bind (·.dst) with
    | some t => match look env t with
      | some (.bool b) => b == want
      | _ => false
    | none => false
def off (ops : Array Oper) (env : List (Nat × Value)) : Option (Nat × Bool) → Bool
  | none => false
  | some (j, want) => match (ops[j]?).bind (·.dst) with
    | some t => match look env t with
      | some (.bool b) => b != want
      | some (.tuple _) => true
      | _ => false
    | none => false
section
variable {P : Program} {ops : Array Oper} {Q : Exit → Act → World → Prop} {dfs : List Deferred} {N : Nat} {env : List (Nat × Value)} {a : Act} {w : World} {i d : Nat} {k : Kind} {r : List (Nat × Kind)}
variable {ty : TypeId} {pos : String} {af : Array Edge} {g : Option (Nat × Bool)} {v u : Value}
theorem EnvD.slot? {t : Nat} (E : EnvD dfs N env a) (h : look env t = some v) (hv : v ≠ undef) : a.tmps[t]? = some v := by
  have := E.slot t v h
  cases ht : a.tmps[t]? with
  | some x => simp [ht] at this; rw [this]
  | none => simp [ht] at this; exact absurd this.symm hv
theorem wnt_wanted (E : EnvD dfs N env a) {o : Oper} (h : wnt ops env o.guard = true) : Region.wanted o (yielded ops a.tmps) = true := by
  unfold Region.wanted
  cases hg : o.guard with
  | none => rfl
  | some jw =>
    obtain ⟨j, want⟩ := jw
    rw [hg] at h
    unfold wnt at h
    dsimp only at h ⊢
    cases ht : (ops[j]?).bind (·.dst) with
    | none => rw [ht] at h; cases h
    | some t =>
      rw [ht] at h
      dsimp only at h
      cases hl : look env t with
      | none => rw [hl] at h; cases h
      | some x =>
        rw [hl] at h
        cases x <;> first | (cases h; done) | skip
        rename_i b
        have h2 := E.slot? hl (by simp [undef])
        simp only [yielded, ht, Option.bind_some, h2]
        have hb : b = want := by simpa using h
        rw [hb]
        simp
theorem off_wanted (E : EnvD dfs N env a) {o : Oper} (h : off ops env o.guard = true) : Region.wanted o (yielded ops a.tmps) = false := by
  unfold Region.wanted
  cases hg : o.guard with
  | none => rw [hg] at h; cases h
  | some jw =>
    obtain ⟨j, want⟩ := jw
    rw [hg] at h
    unfold off at h
    dsimp only at h ⊢
    cases ht : (ops[j]?).bind (·.dst) with
    | none => rw [ht] at h; cases h
    | some t =>
      rw [ht] at h
      dsimp only at h
      cases hl : look env t with
      | none => rw [hl] at h; cases h
      | some x =>
        rw [hl] at h
        cases x <;> first | (cases h; done) | skip
        · rename_i b
          have h2 := E.slot? hl (by simp [undef])
          simp only [yielded, ht, Option.bind_some, h2]
          cases b <;> cases want <;> simp_all
        · rename_i vs
          by_cases hv : Value.tuple vs = undef
          · have h3 := E.slot t _ hl
            simp only [yielded, ht, Option.bind_some]
            cases hx : a.tmps[t]? with
            | none => rfl
            | some y => simp [hx] at h3; rw [h3]; rfl
          · have h2 := E.slot? hl hv
            simp only [yielded, ht, Option.bind_some, h2]
            rfl
def nop : Kind → Bool
  | .p => false
  | _ => true
def eff : Kind → Bool
  | .e => true
  | .l => true
  | _ => false
/-- The run's end. -/
theorem Run.nil (h : Q .normal a w) : Run P ops Q [] a w := h
/-- It yields v, whatever the world. -/
theorem Run.val {op : Op} (hi : ops[i]? = some ⟨some d, op, ty, pos, af, g⟩) (E : EnvD dfs N env a) (hw : wnt ops env g = true) (hN : Nat.blt d N = true) (hr : ∀ w, (execOp a.eval ⟨some d, op, ty, pos, af, g⟩).run P w = .ok (.value v) w)
    (K : ∀ a', EnvD dfs N ((d, v) :: env) a' → Run P ops Q r a' w) : Run P ops Q ((i, k) :: r) a w := by
  have hwant := wnt_wanted (ops := ops) E (o := ⟨some d, op, ty, pos, af, g⟩) hw
  have hy : Yields P ops ⟨some d, op, ty, pos, af, g⟩ v a := .inl ⟨hwant, hr⟩
  have hK := K _ (E.put v hN)
  cases k with
  | p => exact ⟨_, _, hi, hy, hK⟩
  | t => exact ⟨_, _, hi, hy.yieldsIf, hK⟩
  | e => exact hy.wpOp hi ⟨Below.refl _ _, hK⟩
  | l => exact hy.wpOp hi hK
/-- It is not carried out. -/
theorem Run.off {op : Op} (hi : ops[i]? = some ⟨some d, op, ty, pos, af, g⟩) (E : EnvD dfs N env a) (hw : off ops env g = true) (hN : Nat.blt d N = true)
    (K : ∀ a', EnvD dfs N ((d, undef) :: env) a' → Run P ops Q r a' w) : Run P ops Q ((i, k) :: r) a w := by
  have hwant := off_wanted (ops := ops) E (o := ⟨some d, op, ty, pos, af, g⟩) hw
  have hy : Yields P ops ⟨some d, op, ty, pos, af, g⟩ undef a := .inr ⟨hwant, rfl⟩
  have hK := K _ (E.put undef hN)
  cases k with
  | p => exact ⟨_, _, hi, hy, hK⟩
  | t => exact ⟨_, _, hi, hy.yieldsIf, hK⟩
  | e => exact hy.wpOp hi ⟨Below.refl _ _, hK⟩
  | l => exact hy.wpOp hi hK
/-- It reads: v, in every world that keeps what is known. -/
theorem Run.rd {op : Op} (hk : nop k = true) (hi : ops[i]? = some ⟨some d, op, ty, pos, af, g⟩) (E : EnvD dfs N env a) (hw : wnt ops env g = true) (hN : Nat.blt d N = true) (hr : ∀ w', Bel w w' → (execOp a.eval ⟨some d, op, ty, pos, af, g⟩).run P w' = .ok (.value v) w')
    (K : ∀ a', EnvD dfs N ((d, v) :: env) a' → Run P ops Q r a' w) : Run P ops Q ((i, k) :: r) a w := by
  have hwant := wnt_wanted (ops := ops) E (o := ⟨some d, op, ty, pos, af, g⟩) hw
  have hy : YieldsIf P ops (Bel w) ⟨some d, op, ty, pos, af, g⟩ v a := .inl ⟨hwant, hr⟩
  have hK := K _ (E.put v hN)
  cases k with
  | p => cases hk
  | t => exact ⟨_, _, hi, hy, hK⟩
  | e => exact hy.wpOp hi (Below.refl _ _) ⟨Below.refl _ _, hK⟩
  | l => exact hy.wpOp hi (Below.refl _ _) hK
/-- It yields v and turns the world. -/
theorem Run.ef {op : Op} {w1 : World} (hk : eff k = true) (hi : ops[i]? = some ⟨some d, op, ty, pos, af, g⟩) (E : EnvD dfs N env a) (hw : wnt ops env g = true) (hN : Nat.blt d N = true) (hr : (execOp a.eval ⟨some d, op, ty, pos, af, g⟩).run P w = .ok (.value v) w1)
    (hb : k = .e → Bel w w1) (K : ∀ a', EnvD dfs N ((d, v) :: env) a' → Run P ops Q r a' w1) : Run P ops Q ((i, k) :: r) a w := by
  have hwant := wnt_wanted (ops := ops) E (o := ⟨some d, op, ty, pos, af, g⟩) hw
  have hK := K _ (E.put v hN)
  cases k with
  | p => cases hk
  | t => cases hk
  | e =>
    show wpOp P ops Q i _ a w
    unfold wpOp
    simp only [hi, hwant, if_true, Oper.wp, hr, Oper.upon]
    exact .inl ⟨hb rfl, hK⟩
  | l =>
    show wpOp P ops Q i _ a w
    unfold wpOp
    simp only [hi, hwant, if_true, Oper.wp, hr, Oper.upon]
    exact .inl hK
/-- It writes: no slot of its own. -/
theorem Run.wr {op : Op} {w1 : World} (hi : ops[i]? = some ⟨none, op, ty, pos, af, g⟩) (E : EnvD dfs N env a) (hw : wnt ops env g = true) (hr : (execOp a.eval ⟨none, op, ty, pos, af, g⟩).run P w = .ok .skip w1)
    (K : Run P ops Q r a w1) : Run P ops Q ((i, .l) :: r) a w := by
  have hwant := wnt_wanted (ops := ops) E (o := ⟨none, op, ty, pos, af, g⟩) hw
  show wpOp P ops Q i _ a w
  unfold wpOp
  simp only [hi, hwant, if_true, Oper.wp, hr, Oper.upon]
  exact .inl K
/-- It calls a function of the program. -/
theorem Run.call {f : FuncId} {fn : Func} {as : List Operand} {ts : Array TypeId} {args : List Value} {R : Ending → World → Prop} (hk : eff k = true) (hi : ops[i]? = some ⟨some d, .call ⟨.value (.func f), as.toArray, ts⟩, ty, pos, af, g⟩) (E : EnvD dfs N env a) (hw : wnt ops env g = true) (hN : Nat.blt d N = true)
    (hf : P.funcs[f]? = some fn) (hname : (fn.name == "runtime.NumGoroutine") = false) (hb : fn.body.isSome = true) (hargs : as.map (ev env) = args.map some) (hC : Calls P f args.toArray w R)
    (hR : ∀ e w', R e w' → ∃ v, e = .returned v ∧ (k = .e → Bel w w') ∧ ∀ a', EnvD dfs N ((d, v) :: env) a' → Run P ops Q r a' w') : Run P ops Q ((i, k) :: r) a w := by
  have hwant := wnt_wanted (ops := ops) E (o := ⟨some d, .call ⟨.value (.func f), as.toArray, ts⟩, ty, pos, af, g⟩) hw
  have hm : as.map a.eval = args := by
    clear hC hi hwant hw
    induction as generalizing args with
    | nil => cases args with
      | nil => rfl
      | cons _ _ => cases hargs
    | cons x as ih => cases args with
      | nil => cases hargs
      | cons y ys =>
        simp only [List.map_cons, List.cons.injEq] at hargs ⊢
        exact ⟨E.eval hargs.1, ih hargs.2⟩
  have h1 : fn.name ≠ "runtime.NumGoroutine" := by simpa using hname
  obtain ⟨c, hc⟩ := Option.isSome_iff_exists.1 hb
  have hrun : (execOp a.eval ⟨some d, .call ⟨.value (.func f), as.toArray, ts⟩, ty, pos, af, g⟩).run P w = .ok (.enter f args.toArray) w := by
    have he : (callFunc f args.toArray).run P w = .ok (.enter f args.toArray) w := by simp [callFunc, hf, h1, hc]
    simp [execOp, resolve, Deferred.ofValue, invoke, Act.eval, hm, he]
  have key : ∀ K : Act → World → Prop, (∀ e w', R e w' → ∃ v, e = .returned v ∧ K (a.put (some d) v) w') → wpOp P ops Q i K a w := by
    intro K hK
    unfold wpOp
    simp only [hi, hwant, if_true, Oper.wp, hrun, Oper.upon]
    refine .inl (hC.mono fun e w' he => ?_)
    obtain ⟨v, rfl, hk⟩ := hK e w' he
    exact hk
  cases k with
  | p => cases hk
  | t => cases hk
  | e =>
    refine key _ fun e w' he => ?_
    obtain ⟨v, rfl, hbel, hK⟩ := hR e w' he
    exact ⟨v, rfl, hbel rfl, hK _ (E.put v hN)⟩
  | l =>
    refine key _ fun e w' he => ?_
    obtain ⟨v, rfl, hbel, hK⟩ := hR e w' he
    exact ⟨v, rfl, hK _ (E.put v hN)⟩

/-! ### 6. Operations on values -/
theorem Run.move {x : Operand} (hi : ops[i]? = some ⟨some d, .move x, ty, pos, af, g⟩) (E : EnvD dfs N env a) (hw : wnt ops env g = true) (hN : Nat.blt d N = true) (hx : ev env x = some v)
    (K : ∀ a', EnvD dfs N ((d, v) :: env) a' → Run P ops Q r a' w) : Run P ops Q ((i, k) :: r) a w :=
  Run.val hi E hw hN (fun w => by simp [execOp, E.eval hx]) K
theorem Run.assign {x : Operand} (hi : ops[i]? = some ⟨some d, .assign x, ty, pos, af, g⟩) (E : EnvD dfs N env a) (hw : wnt ops env g = true) (hN : Nat.blt d N = true) (hx : ev env x = some v)
    (K : ∀ a', EnvD dfs N ((d, v) :: env) a' → Run P ops Q r a' w) : Run P ops Q ((i, k) :: r) a w :=
  Run.val hi E hw hN (fun w => by simp [execOp, E.eval hx]) K
theorem Run.pickT {c x y : Operand} (hi : ops[i]? = some ⟨some d, .pick c x y, ty, pos, af, g⟩) (E : EnvD dfs N env a) (hw : wnt ops env g = true) (hN : Nat.blt d N = true) (hc : ev env c = some (.bool true)) (hx : ev env x = some v)
    (K : ∀ a', EnvD dfs N ((d, v) :: env) a' → Run P ops Q r a' w) : Run P ops Q ((i, k) :: r) a w :=
  Run.val hi E hw hN (fun w => by simp [execOp, E.eval hx, E.eval hc, asBool]) K
theorem Run.pickF {c x y : Operand} (hi : ops[i]? = some ⟨some d, .pick c x y, ty, pos, af, g⟩) (E : EnvD dfs N env a) (hw : wnt ops env g = true) (hN : Nat.blt d N = true) (hc : ev env c = some (.bool false)) (hx : ev env y = some v)
    (K : ∀ a', EnvD dfs N ((d, v) :: env) a' → Run P ops Q r a' w) : Run P ops Q ((i, k) :: r) a w :=
  Run.val hi E hw hN (fun w => by simp [execOp, E.eval hx, E.eval hc, asBool]) K
theorem Run.nilCheck {x : Operand} {p : Addr} (hi : ops[i]? = some ⟨some d, .nilCheck x, ty, pos, af, g⟩) (E : EnvD dfs N env a) (hw : wnt ops env g = true) (hN : Nat.blt d N = true) (hx : ev env x = some (.pointer (some p)))
    (K : ∀ a', EnvD dfs N ((d, .pointer (some p)) :: env) a' → Run P ops Q r a' w) : Run P ops Q ((i, k) :: r) a w :=
  Run.val hi E hw hN (fun w => by simp [execOp, E.eval hx]) K
def fieldOff (P : Program) (s f : Nat) : Option Nat := match P.underlying s with
  | some (.struct fields) => match fields[f]? with
    | some fd => match P.info? fd.type with
      | some inf => bif Nat.beq inf.size 0 then none else some fd.offset
      | none => none
    | none => none
  | _ => none
theorem run_fieldAt {s f o : Nat} {p : Addr} (h : fieldOff P s f = some o) (w : World) : (Instr.fieldAt s (.pointer (some p)) f).run P w = .ok (.pointer (some (p.add o))) w := by
  unfold fieldOff at h
  split at h
  · rename_i fields hu
    split at h
    · rename_i fd hfd
      split at h
      · rename_i inf hinf
        cases hb : Nat.beq inf.size 0 with
        | true => rw [hb] at h; cases h
        | false =>
          rw [hb] at h
          obtain rfl : fd.offset = o := Option.some.inj h
          have hne : ¬ inf.size = 0 := fun e => by rw [e] at hb; simp at hb
          simp [Instr.fieldAt, run_underlying hu, hfd, Instr.sureAddr, fieldPlace, sizeOf, typeInfo, hinf, hne]
      · cases h
    · cases h
  · cases h
theorem Run.fieldAddr {x : Operand} {s f o : Nat} {p q : Addr} (hi : ops[i]? = some ⟨some d, .fieldAddr s x f, ty, pos, af, g⟩) (E : EnvD dfs N env a) (hw : wnt ops env g = true) (hN : Nat.blt d N = true) (hx : ev env x = some (.pointer (some p)))
    (hf : fieldOff P s f = some o) (hq : p.add o = q) (K : ∀ a', EnvD dfs N ((d, .pointer (some q)) :: env) a' → Run P ops Q r a' w) : Run P ops Q ((i, k) :: r) a w :=
  Run.val hi E hw hN (fun w => by subst hq; simp [execOp, E.eval hx, run_fieldAt hf]) K
/-! sums, and comparisons: the value as it is told -/
theorem Run.add {x y : Operand} {xt yt : TypeId} {kd : IntKind} {m n q : Int} (hi : ops[i]? = some ⟨some d, .binOp .add xt x y yt, ty, pos, af, g⟩) (E : EnvD dfs N env a) (hw : wnt ops env g = true) (hN : Nat.blt d N = true) (hx : ev env x = some (.int kd m)) (hy : ev env y = some (.int kd n)) (hq : kd.wrap (m + n) = q)
    (K : ∀ a', EnvD dfs N ((d, .int kd q) :: env) a' → Run P ops Q r a' w) : Run P ops Q ((i, k) :: r) a w :=
  Run.val hi E hw hN (fun w => by subst hq; simp [execOp, E.eval hx, E.eval hy, binOp, Op.intArith, eqGuard]) K
theorem Run.sub {x y : Operand} {xt yt : TypeId} {kd : IntKind} {m n q : Int} (hi : ops[i]? = some ⟨some d, .binOp .sub xt x y yt, ty, pos, af, g⟩) (E : EnvD dfs N env a) (hw : wnt ops env g = true) (hN : Nat.blt d N = true) (hx : ev env x = some (.int kd m)) (hy : ev env y = some (.int kd n)) (hq : kd.wrap (m - n) = q)
    (K : ∀ a', EnvD dfs N ((d, .int kd q) :: env) a' → Run P ops Q r a' w) : Run P ops Q ((i, k) :: r) a w :=
  Run.val hi E hw hN (fun w => by subst hq; simp [execOp, E.eval hx, E.eval hy, binOp, Op.intArith, eqGuard]) K
theorem Run.mul {x y : Operand} {xt yt : TypeId} {kd : IntKind} {m n q : Int} (hi : ops[i]? = some ⟨some d, .binOp .mul xt x y yt, ty, pos, af, g⟩) (E : EnvD dfs N env a) (hw : wnt ops env g = true) (hN : Nat.blt d N = true) (hx : ev env x = some (.int kd m)) (hy : ev env y = some (.int kd n)) (hq : kd.wrap (m * n) = q)
    (K : ∀ a', EnvD dfs N ((d, .int kd q) :: env) a' → Run P ops Q r a' w) : Run P ops Q ((i, k) :: r) a w :=
  Run.val hi E hw hN (fun w => by subst hq; simp [execOp, E.eval hx, E.eval hy, binOp, Op.intArith, eqGuard]) K
theorem Run.quo {x y : Operand} {xt yt : TypeId} {kd : IntKind} {m n q : Int} (hi : ops[i]? = some ⟨some d, .binOp .quo xt x y yt, ty, pos, af, g⟩) (E : EnvD dfs N env a) (hw : wnt ops env g = true) (hN : Nat.blt d N = true) (hx : ev env x = some (.int kd m)) (hy : ev env y = some (.int kd n)) (h0 : n ≠ 0) (hq : kd.wrap (m.tdiv n) = q)
    (K : ∀ a', EnvD dfs N ((d, .int kd q) :: env) a' → Run P ops Q r a' w) : Run P ops Q ((i, k) :: r) a w :=
  Run.val hi E hw hN (fun w => by subst hq; simp [execOp, E.eval hx, E.eval hy, binOp, Op.intDiv, eqGuard, h0]) K
theorem Run.rem {x y : Operand} {xt yt : TypeId} {kd : IntKind} {m n q : Int} (hi : ops[i]? = some ⟨some d, .binOp .rem xt x y yt, ty, pos, af, g⟩) (E : EnvD dfs N env a) (hw : wnt ops env g = true) (hN : Nat.blt d N = true) (hx : ev env x = some (.int kd m)) (hy : ev env y = some (.int kd n)) (h0 : n ≠ 0) (hq : m.tmod n = q)
    (K : ∀ a', EnvD dfs N ((d, .int kd q) :: env) a' → Run P ops Q r a' w) : Run P ops Q ((i, k) :: r) a w :=
  Run.val hi E hw hN (fun w => by subst hq; simp [execOp, E.eval hx, E.eval hy, binOp, Op.intDiv, eqGuard, h0]) K
theorem Run.lss {x y : Operand} {xt yt : TypeId} {kd : IntKind} {m n : Int} {b : Bool} (hi : ops[i]? = some ⟨some d, .binOp .lss xt x y yt, ty, pos, af, g⟩) (E : EnvD dfs N env a) (hw : wnt ops env g = true) (hN : Nat.blt d N = true) (hx : ev env x = some (.int kd m)) (hy : ev env y = some (.int kd n)) (hb : decide (m < n) = b)
    (K : ∀ a', EnvD dfs N ((d, .bool b) :: env) a' → Run P ops Q r a' w) : Run P ops Q ((i, k) :: r) a w :=
  Run.val hi E hw hN (fun w => by subst hb; simp [execOp, E.eval hx, E.eval hy, binOp, Op.intCmp, eqGuard]) K
theorem Run.leq {x y : Operand} {xt yt : TypeId} {kd : IntKind} {m n : Int} {b : Bool} (hi : ops[i]? = some ⟨some d, .binOp .leq xt x y yt, ty, pos, af, g⟩) (E : EnvD dfs N env a) (hw : wnt ops env g = true) (hN : Nat.blt d N = true) (hx : ev env x = some (.int kd m)) (hy : ev env y = some (.int kd n)) (hb : decide (m ≤ n) = b)
    (K : ∀ a', EnvD dfs N ((d, .bool b) :: env) a' → Run P ops Q r a' w) : Run P ops Q ((i, k) :: r) a w :=
  Run.val hi E hw hN (fun w => by subst hb; simp [execOp, E.eval hx, E.eval hy, binOp, Op.intCmp, eqGuard]) K
theorem Run.gtr {x y : Operand} {xt yt : TypeId} {kd : IntKind} {m n : Int} {b : Bool} (hi : ops[i]? = some ⟨some d, .binOp .gtr xt x y yt, ty, pos, af, g⟩) (E : EnvD dfs N env a) (hw : wnt ops env g = true) (hN : Nat.blt d N = true) (hx : ev env x = some (.int kd m)) (hy : ev env y = some (.int kd n)) (hb : decide (n < m) = b)
    (K : ∀ a', EnvD dfs N ((d, .bool b) :: env) a' → Run P ops Q r a' w) : Run P ops Q ((i, k) :: r) a w :=
  Run.val hi E hw hN (fun w => by subst hb; simp [execOp, E.eval hx, E.eval hy, binOp, Op.intCmp, eqGuard]) K
theorem Run.geq {x y : Operand} {xt yt : TypeId} {kd : IntKind} {m n : Int} {b : Bool} (hi : ops[i]? = some ⟨some d, .binOp .geq xt x y yt, ty, pos, af, g⟩) (E : EnvD dfs N env a) (hw : wnt ops env g = true) (hN : Nat.blt d N = true) (hx : ev env x = some (.int kd m)) (hy : ev env y = some (.int kd n)) (hb : decide (n ≤ m) = b)
    (K : ∀ a', EnvD dfs N ((d, .bool b) :: env) a' → Run P ops Q r a' w) : Run P ops Q ((i, k) :: r) a w :=
  Run.val hi E hw hN (fun w => by subst hb; simp [execOp, E.eval hx, E.eval hy, binOp, Op.intCmp, eqGuard]) K
theorem Run.eqi {x y : Operand} {xt yt : TypeId} {kd : IntKind} {m n : Int} {b : Bool} (hi : ops[i]? = some ⟨some d, .binOp .eql xt x y yt, ty, pos, af, g⟩) (E : EnvD dfs N env a) (hw : wnt ops env g = true) (hN : Nat.blt d N = true) (hx : ev env x = some (.int kd m)) (hy : ev env y = some (.int kd n)) (hb : decide (m = n) = b)
    (K : ∀ a', EnvD dfs N ((d, .bool b) :: env) a' → Run P ops Q r a' w) : Run P ops Q ((i, k) :: r) a w :=
  Run.val hi E hw hN (fun w => by
    subst hb
    have e : (m == n) = decide (m = n) := by rw [Bool.eq_iff_iff]; simp
    simp [execOp, E.eval hx, E.eval hy, binOp, Op.intCmp, eqGuard, e]) K
theorem Run.nei {x y : Operand} {xt yt : TypeId} {kd : IntKind} {m n : Int} {b : Bool} (hi : ops[i]? = some ⟨some d, .binOp .neq xt x y yt, ty, pos, af, g⟩) (E : EnvD dfs N env a) (hw : wnt ops env g = true) (hN : Nat.blt d N = true) (hx : ev env x = some (.int kd m)) (hy : ev env y = some (.int kd n)) (hb : decide (m ≠ n) = b)
    (K : ∀ a', EnvD dfs N ((d, .bool b) :: env) a' → Run P ops Q r a' w) : Run P ops Q ((i, k) :: r) a w :=
  Run.val hi E hw hN (fun w => by
    subst hb
    have e : (m != n) = decide (m ≠ n) := by rw [Bool.eq_iff_iff]; simp
    simp [execOp, E.eval hx, E.eval hy, binOp, Op.intCmp, eqGuard, e]) K
/-- Any operation of two operands, its run given. -/
theorem Run.bin {o : BinOp} {x y : Operand} {xt yt : TypeId} {vx vy : Value} (hi : ops[i]? = some ⟨some d, .binOp o xt x y yt, ty, pos, af, g⟩) (E : EnvD dfs N env a) (hw : wnt ops env g = true) (hN : Nat.blt d N = true) (hx : ev env x = some vx) (hy : ev env y = some vy) (hr : ∀ w, (do eqGuard o xt x y vx vy; binOp o xt vx vy : Sem Value).run P w = .ok v w)
    (K : ∀ a', EnvD dfs N ((d, v) :: env) a' → Run P ops Q r a' w) : Run P ops Q ((i, k) :: r) a w :=
  Run.val hi E hw hN (fun w => by
    have := hr w
    simp only [execOp, E.eval hx, E.eval hy, Sem.run_bind] at this ⊢
    simp [this]) K
theorem Run.not {x : Operand} {xt : TypeId} {b c : Bool} (hi : ops[i]? = some ⟨some d, .unOp .not xt x, ty, pos, af, g⟩) (E : EnvD dfs N env a) (hw : wnt ops env g = true) (hN : Nat.blt d N = true) (hx : ev env x = some (.bool b)) (hb : (!b) = c)
    (K : ∀ a', EnvD dfs N ((d, .bool c) :: env) a' → Run P ops Q r a' w) : Run P ops Q ((i, k) :: r) a w :=
  Run.val hi E hw hN (fun w => by subst hb; simp [execOp, E.eval hx, Op.unary]) K
theorem Run.neg {x : Operand} {xt : TypeId} {kd : IntKind} {m q : Int} (hi : ops[i]? = some ⟨some d, .unOp .neg xt x, ty, pos, af, g⟩) (E : EnvD dfs N env a) (hw : wnt ops env g = true) (hN : Nat.blt d N = true) (hx : ev env x = some (.int kd m)) (hq : kd.wrap (0 - m) = q)
    (K : ∀ a', EnvD dfs N ((d, .int kd q) :: env) a' → Run P ops Q r a' w) : Run P ops Q ((i, k) :: r) a w :=
  Run.val hi E hw hN (fun w => by subst hq; simp [execOp, E.eval hx, Op.unary, Op.intArith]) K
theorem Run.conv {x : Operand} {s t : TypeId} {k1 k2 : IntKind} {m q : Int} (hi : ops[i]? = some ⟨some d, .convert s t x, ty, pos, af, g⟩) (E : EnvD dfs N env a) (hw : wnt ops env g = true) (hN : Nat.blt d N = true) (hx : ev env x = some (.int k1 m)) (hs : P.underlying s = some (.int k1)) (ht : P.underlying t = some (.int k2)) (hq : k2.wrap m = q)
    (K : ∀ a', EnvD dfs N ((d, .int k2 q) :: env) a' → Run P ops Q r a' w) : Run P ops Q ((i, k) :: r) a w :=
  Run.val hi E hw hN (fun w => by subst hq; simp [execOp, E.eval hx, convert, run_underlying hs, run_underlying ht, Conv.intToInt]) K
theorem Run.extract {x : Operand} {vs : Array Value} {ix : Nat} (hi : ops[i]? = some ⟨some d, .extract x ix, ty, pos, af, g⟩) (E : EnvD dfs N env a) (hw : wnt ops env g = true) (hN : Nat.blt d N = true) (hx : ev env x = some (.tuple vs)) (hv : vs[ix]? = some v)
    (K : ∀ a', EnvD dfs N ((d, v) :: env) a' → Run P ops Q r a' w) : Run P ops Q ((i, k) :: r) a w :=
  Run.val hi E hw hN (fun w => by simp [execOp, E.eval hx, Instr.extract, hv]) K
theorem Run.len {x : Operand} {t e : TypeId} {A : Option Addr} {n c : Nat} (hi : ops[i]? = some ⟨some d, .call ⟨.builtin .len, #[x], #[t]⟩, ty, pos, af, g⟩) (E : EnvD dfs N env a) (hw : wnt ops env g = true) (hN : Nat.blt d N = true) (hx : ev env x = some (.slice A n c)) (ht : P.underlying t = some (.slice e))
    (K : ∀ a', EnvD dfs N ((d, .int .i64 (n : Int)) :: env) a' → Run P ops Q r a' w) : Run P ops Q ((i, k) :: r) a w :=
  Run.val hi E hw hN (fun w => by simp [execOp, resolve, invoke, builtin, E.eval hx, Builtin.len_, run_underlying ht, goInt]) K
theorem Run.lenS {x : Operand} {t : TypeId} {s : ByteArray} (hi : ops[i]? = some ⟨some d, .call ⟨.builtin .len, #[x], #[t]⟩, ty, pos, af, g⟩) (E : EnvD dfs N env a) (hw : wnt ops env g = true) (hN : Nat.blt d N = true) (hx : ev env x = some (.string s)) (ht : P.underlying t = some .string)
    (K : ∀ a', EnvD dfs N ((d, .int .i64 (s.size : Int)) :: env) a' → Run P ops Q r a' w) : Run P ops Q ((i, k) :: r) a w :=
  Run.val hi E hw hN (fun w => by simp [execOp, resolve, invoke, builtin, E.eval hx, Builtin.len_, run_underlying ht, goInt]) K
theorem Run.max {x y : Operand} {t : Array TypeId} {k1 k2 : IntKind} {m n q : Int} (hi : ops[i]? = some ⟨some d, .call ⟨.builtin .max, #[x, y], t⟩, ty, pos, af, g⟩) (E : EnvD dfs N env a) (hw : wnt ops env g = true) (hN : Nat.blt d N = true) (hx : ev env x = some (.int k1 m)) (hy : ev env y = some (.int k2 n)) (hq : (if n > m then n else m) = q)
    (K : ∀ a', EnvD dfs N ((d, .int k1 q) :: env) a' → Run P ops Q r a' w) : Run P ops Q ((i, k) :: r) a w :=
  Run.val hi E hw hN (fun w => by subst hq; simp [execOp, resolve, invoke, builtin, E.eval hx, E.eval hy, run_max_int2]) K
theorem Run.min {x y : Operand} {t : Array TypeId} {k1 k2 : IntKind} {m n q : Int} (hi : ops[i]? = some ⟨some d, .call ⟨.builtin .min, #[x, y], t⟩, ty, pos, af, g⟩) (E : EnvD dfs N env a) (hw : wnt ops env g = true) (hN : Nat.blt d N = true) (hx : ev env x = some (.int k1 m)) (hy : ev env y = some (.int k2 n)) (hq : (if n < m then n else m) = q)
    (K : ∀ a', EnvD dfs N ((d, .int k1 q) :: env) a' → Run P ops Q r a' w) : Run P ops Q ((i, k) :: r) a w :=
  Run.val hi E hw hN (fun w => by subst hq; simp [execOp, resolve, invoke, builtin, E.eval hx, E.eval hy, run_min_int2]) K
/-! places -/
theorem Run.indexAddr {x y : Operand} {t e : TypeId} {sz n c : Nat} {p q : Addr} {kd : IntKind} {m : Int} (hi : ops[i]? = some ⟨some d, .indexAddr t x y, ty, pos, af, g⟩) (E : EnvD dfs N env a) (hw : wnt ops env g = true) (hN : Nat.blt d N = true) (hx : ev env x = some (.slice (some p) n c)) (hy : ev env y = some (.int kd m))
    (ht : P.underlying t = some (.slice e)) (hz : (P.info? e).map (·.size) = some sz) (hb : 0 ≤ m ∧ m < (n : Int)) (hq : p.add (m.toNat * sz) = q) (K : ∀ a', EnvD dfs N ((d, .pointer (some q)) :: env) a' → Run P ops Q r a' w) : Run P ops Q ((i, k) :: r) a w :=
  Run.val hi E hw hN (fun w => by
    subst hq
    obtain ⟨inf, hinf, rfl⟩ := Option.map_eq_some_iff.1 hz
    simp [execOp, E.eval hx, E.eval hy, Instr.indexAt, asIntOf, run_underlying ht, hb, sizeOf, typeInfo, hinf]) K
theorem Run.indexArr {x y : Operand} {t e : TypeId} {sz n : Nat} {p q : Addr} {kd : IntKind} {m : Int} (hi : ops[i]? = some ⟨some d, .indexAddr t x y, ty, pos, af, g⟩) (E : EnvD dfs N env a) (hw : wnt ops env g = true) (hN : Nat.blt d N = true) (hx : ev env x = some (.pointer (some p))) (hy : ev env y = some (.int kd m))
    (ht : P.underlying t = some (.array n e)) (hz : (P.info? e).map (·.size) = some sz) (hb : 0 ≤ m ∧ m < (n : Int)) (hq : p.add (m.toNat * sz) = q) (K : ∀ a', EnvD dfs N ((d, .pointer (some q)) :: env) a' → Run P ops Q r a' w) : Run P ops Q ((i, k) :: r) a w :=
  Run.val hi E hw hN (fun w => by
    subst hq
    obtain ⟨inf, hinf, rfl⟩ := Option.map_eq_some_iff.1 hz
    simp [execOp, E.eval hx, E.eval hy, Instr.indexAt, Instr.sureAddr, asIntOf, run_underlying ht, hb, sizeOf, typeInfo, hinf]) K
/-! reads -/
def oneCell (P : Program) (t : TypeId) : Bool := match P.underlying t with
  | some (.struct _) => false
  | some (.array _ _) => false
  | some _ => true
  | none => false
theorem run_isAgg_one {t : TypeId} (h : oneCell P t = true) (w : World) : (isAgg t).run P w = .ok false w := by
  unfold oneCell at h
  split at h <;> first | (cases h; done) | skip
  rename_i dd h1 h2 hu
  unfold isAgg
  simp only [Sem.run_bind, run_underlying hu, Result.andThen_ok]
  cases dd <;> first | rfl | (exact absurd rfl (h1 _)) | (exact absurd rfl (h2 _ _)) | (exfalso; simp_all)
theorem run_loadAt_one {t : TypeId} {p : Addr} {w : World} (h : oneCell P t = true) (hc : w.cell? p = some v) : (Instr.loadAt t (.pointer (some p))).run P w = .ok v w := by
  simp [Instr.loadAt, Instr.sureAddr, loadVar, run_isAgg_one h, hc]
def aggSize (P : Program) (t : TypeId) : Option Nat := match P.underlying t with
  | some (.struct _) => (P.info? t).map (·.size)
  | some (.array _ _) => (P.info? t).map (·.size)
  | _ => none
theorem run_loadAt_agg {t n : Nat} {p : Addr} {cs : List Value} {w : World} (h : aggSize P t = some n) (hn : Nat.beq cs.length n = true) (hc : ∀ j v, cs[j]? = some v → w.cell? (p.add j) = some v) : (Instr.loadAt t (.pointer (some p))).run P w = .ok (.agg cs.toArray) w := by
  have hn' := Nat.eq_of_beq_eq_true hn
  have hl := run_loadCells_list (P := P) (w := w) p cs hc
  rw [hn'] at hl
  unfold aggSize at h
  split at h
  · rename_i fs hu
    obtain ⟨inf, hinf, rfl⟩ := Option.map_eq_some_iff.1 h
    simp [Instr.loadAt, Instr.sureAddr, loadVar, isAgg, run_underlying hu, sizeOf, typeInfo, hinf, hl]
  · rename_i m e hu
    obtain ⟨inf, hinf, rfl⟩ := Option.map_eq_some_iff.1 h
    simp [Instr.loadAt, Instr.sureAddr, loadVar, isAgg, run_underlying hu, sizeOf, typeInfo, hinf, hl]
  · cases h
theorem Run.load1 {F : List Nat} {w0 : World} {hp : List Ck} {x : Operand} {t : TypeId} {p : Addr} (hk : nop k = true) (hi : ops[i]? = some ⟨some d, .load t x, ty, pos, af, g⟩) (E : EnvD dfs N env a) (S : St F w0 w hp) (hw : wnt ops env g = true) (hN : Nat.blt d N = true) (hx : ev env x = some (.pointer (some p))) (ht : oneCell P t = true)
    (hc : ∀ w', St F w0 w' hp → w'.cell? p = some v) (K : ∀ a', EnvD dfs N ((d, v) :: env) a' → Run P ops Q r a' w) : Run P ops Q ((i, k) :: r) a w :=
  Run.rd hk hi E hw hN (fun w' hb => by simp [execOp, E.eval hx, run_loadAt_one ht (hc w' (S.bel hb))]) K
theorem Run.loadN {F : List Nat} {w0 : World} {hp : List Ck} {x : Operand} {t n : Nat} {p : Addr} {cs : List Value} (hk : nop k = true) (hi : ops[i]? = some ⟨some d, .load t x, ty, pos, af, g⟩) (E : EnvD dfs N env a) (S : St F w0 w hp) (hw : wnt ops env g = true) (hN : Nat.blt d N = true) (hx : ev env x = some (.pointer (some p))) (ht : aggSize P t = some n) (hn : Nat.beq cs.length n = true)
    (hc : ∀ w', St F w0 w' hp → ∀ j v, cs[j]? = some v → w'.cell? (p.add j) = some v) (K : ∀ a', EnvD dfs N ((d, .agg cs.toArray) :: env) a' → Run P ops Q r a' w) : Run P ops Q ((i, k) :: r) a w :=
  Run.rd hk hi E hw hN (fun w' hb => by simp [execOp, E.eval hx, run_loadAt_agg ht hn (hc w' (S.bel hb))]) K
end
end Go.Proofs.Ytlcglefbhlhcpaa.K
