/- Which states may be: plain. -/
import Derived.Test.YtlcglefbhlhcpaaDeA
namespace Go.Proofs.Ytlcglefbhlhcpaa.K
open Go.RowKit
set_option linter.unusedVariables false
section
variable {P : Program} {ops : Array Oper} {Q : Exit → Act → World → Prop} {dfs : List Deferred} {N : Nat} {env : List (Nat × Value)} {a : Act} {w : World} {i d : Nat} {k : Kind} {r : List (Nat × Kind)}
variable {ty : TypeId} {pos : String} {af : Array Edge} {g : Option (Nat × Bool)}
/-- It calls a function value. -/
theorem Run.callV {f : FuncId} {fn : Func} {x : Operand} {as_ : List Operand} {ts : Array TypeId} {args : List Value} {R : Ending → World → Prop} (hk : eff k = true) (hi : ops[i]? = some ⟨some d, .call ⟨.value x, as_.toArray, ts⟩, ty, pos, af, g⟩) (E : EnvD dfs N env a) (hw : wnt ops env g = true) (hN : Nat.blt d N = true) (hx : ev env x = some (.func (.func f) #[] #[]))
    (hf : P.funcs[f]? = some fn) (hname : (fn.name == "runtime.NumGoroutine") = false) (hb : fn.body.isSome = true) (hargs : as_.map (ev env) = args.map some) (hC : Calls P f args.toArray w R)
    (hR : ∀ e w', R e w' → ∃ v, e = .returned v ∧ (k = .e → Bel w w') ∧ ∀ a', EnvD dfs N ((d, v) :: env) a' → Run P ops Q r a' w') : Run P ops Q ((i, k) :: r) a w := by
  have hwant := wnt_wanted (ops := ops) E (o := ⟨some d, .call ⟨.value x, as_.toArray, ts⟩, ty, pos, af, g⟩) hw
  have hm : as_.map a.eval = args := by
    clear hC hi hwant hw
    induction as_ generalizing args with
    | nil => cases args with
      | nil => rfl
      | cons _ _ => cases hargs
    | cons x as_ ih => cases args with
      | nil => cases hargs
      | cons y ys =>
        simp only [List.map_cons, List.cons.injEq] at hargs ⊢
        exact ⟨E.eval hargs.1, ih hargs.2⟩
  have h1 : fn.name ≠ "runtime.NumGoroutine" := by simpa using hname
  obtain ⟨c, hc⟩ := Option.isSome_iff_exists.1 hb
  have hrun : (execOp a.eval ⟨some d, .call ⟨.value x, as_.toArray, ts⟩, ty, pos, af, g⟩).run P w = .ok (.enter f args.toArray) w := by
    have he : (callFunc f args.toArray).run P w = .ok (.enter f args.toArray) w := by simp [callFunc, hf, h1, hc]
    simp [execOp, resolve, Deferred.ofValue, invoke, E.eval hx, hm, he]
  have key : ∀ K : Act → World → Prop, (∀ e w', R e w' → ∃ v, e = .returned v ∧ K (a.put (some d) v) w') → wpOp P ops Q i K a w := by
    intro K hK
    unfold wpOp
    simp only [hi, hwant, if_true, Oper.wp, hrun, Oper.upon]
    refine .inl (hC.mono fun e w' he => ?_)
    obtain ⟨v, rfl, hk⟩ := hK e w' he
    exact hk
  cases k with
  | p => cases hk
  | t => cases hk
  | e =>
    refine key _ fun e w' he => ?_
    obtain ⟨v, rfl, hbel, hK⟩ := hR e w' he
    exact ⟨v, rfl, hbel rfl, hK _ (E.put v hN)⟩
  | l =>
    refine key _ fun e w' he => ?_
    obtain ⟨v, rfl, hbel, hK⟩ := hR e w' he
    exact ⟨v, rfl, hK _ (E.put v hN)⟩
end
def okCap (x : Int) : Bool := decide (-1 ≤ x ∧ x ≤ 65536)
def Sta.what (s : Sta) : Prop := (1 ≤ s.kind ∧ s.kind ≤ 14) ∧ (0 ≤ s.node ∧ s.node ≤ 16384) ∧ (0 ≤ s.phase ∧ s.phase ≤ 16384)
def Sta.wher (s : Sta) : Prop := (0 ≤ s.pos ∧ s.pos ≤ 65536) ∧ (0 ≤ s.start ∧ s.start ≤ 65536)
def Sta.far (s : Sta) : Prop := (0 ≤ s.depth ∧ s.depth ≤ 65536) ∧ (-1 ≤ s.org ∧ s.org ≤ 1048576)
instance (s : Sta) : Decidable s.what := by unfold Sta.what; infer_instance
instance (s : Sta) : Decidable s.wher := by unfold Sta.wher; infer_instance
instance (s : Sta) : Decidable s.far := by unfold Sta.far; infer_instance
/-- A state may be, with so many groups. -/
def Sta.Right (s : Sta) (g : Int) : Prop := (0 ≤ g ∧ g ≤ 99) ∧ (s.caps.length : Int) = 2 * (g + 1) ∧ s.what ∧ s.wher ∧ s.far ∧ s.caps.all okCap = true
instance (s : Sta) (g : Int) : Decidable (s.Right g) := by unfold Sta.Right; infer_instance
def Sta.groups (s : Sta) : Int := (s.caps.length : Int) / 2 - 1
/-- A blank one, of so many groups as it has places. -/
def Sta.isBlank (s : Sta) : Prop := (0 ≤ s.groups ∧ s.groups ≤ 99) ∧ (s.caps.length : Int) = 2 * s.groups + 2 ∧ s = Sta.blank s.caps.length
instance (s : Sta) : Decidable s.isBlank := by unfold Sta.isBlank; infer_instance
/-- It may stand ahead of another one. -/
def Sta.base (s : Sta) : Prop := s.Right s.groups ∨ s.isBlank
instance (s : Sta) : Decidable s.base := by unfold Sta.base; infer_instance
theorem okCap_false {l : List Int} {i : Nat} (h : i < l.length) (hb : okCap l[i] = false) : l.all okCap = false := by
  rw [List.all_eq_false]
  exact ⟨l[i], List.getElem_mem _, by simp [hb]⟩
theorem okCap_all {l : List Int} {i : Nat} (h : ∀ j (hj : j < l.length), j < i → okCap l[j] = true) (hi : l.length ≤ i) : l.all okCap = true := by
  rw [List.all_eq_true]
  intro x hx
  obtain ⟨j, hj, rfl⟩ := List.getElem_of_mem hx
  exact h j hj (by omega)
/-- What is told by holding it against a blank one. -/
theorem blank_same (s : Sta) (h0 : 0 ≤ s.groups) {k : Nat} (hk : (k : Int) = min (max s.groups 0) 99) : decide (s = Sta.blank (2 * (k + 1))) = decide s.isBlank := by
  apply decide_eq_decide.2
  unfold Sta.isBlank
  constructor
  · intro h
    have hl : s.caps.length = 2 * (k + 1) := by rw [h]; simp [Sta.blank]
    have hg : s.groups = (k : Int) := by unfold Sta.groups; omega
    refine ⟨by omega, by omega, ?_⟩
    rw [hl]; exact h
  · rintro ⟨h1, h2, h3⟩
    have : s.caps.length = 2 * (k + 1) := by omega
    rw [← this]; exact h3
end Go.Proofs.Ytlcglefbhlhcpaa.K
