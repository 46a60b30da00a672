/- A group's span is told just if both of its places are there: the law clewlaw14.EventSpans answers true at every state and every group. Conditions: none beyond the given row's. -/
import Derived.Test.YtecfnbnngdpfiaaSpansx1
import Derived.OpenShut
namespace Go.Proofs.Ytecfnbnngdpfiaa.Pure
open Go.RowKit Go.Proofs.Ytecfnbnngdpfiaa.PEventSpans Go.Proofs.YtecfnbnngdpfiaaW.PrintWords Go.Proofs.YtecfnbnngdpfiaaW.PrintLast Go.Proofs.YtecfnbnngdpfiaaW.PrintMore
open Go (IntKind Lit maxLen World Addr)

/-! ### a blank state -/
theorem blank_l0 (n d : Nat) (hn : n ≤ 1000) : ∀ (i k : Nat) (out : List Int), i + d = n → d < k → out.length + d ≤ 1000 →
    event_Blank.l0 k (n : Int) (i : Int) 0 0 0 0 0 0 (-1) out = some (0, 0, 0, 0, 0, 0, -1, out ++ List.replicate d (-1)) := by
  induction d with
  | zero =>
    intro i k out hi hk ho
    obtain ⟨k, rfl⟩ : ∃ m, k = m + 1 := ⟨k - 1, by omega⟩
    simp only [event_Blank.l0]
    rw [if_neg (show ¬ (i : Int) < (n : Int) by omega)]
    simp
  | succ d ih =>
    intro i k out hi hk ho
    obtain ⟨k, rfl⟩ : ∃ m, k = m + 1 := ⟨k - 1, by omega⟩
    have e : wrap64 ((i : Int) + 1) = ((i + 1 : Nat) : Int) := by unfold wrap64; omega
    simp only [event_Blank.l0]
    rw [if_pos (show (i : Int) < (n : Int) by omega), if_pos (by omega), e]
    clear e
    rw [ih (i + 1) k (out ++ [-1]) (by omega) (by omega) (by simp only [List.length_append, List.length_cons, List.length_nil]; omega)]
    rw [List.append_assoc, List.replicate_succ]
    rfl
/-- How many places a blank state has. -/
def blanks (g : Int) : Nat := (2 * (min (max g 0) 99 + 1)).toNat
theorem blank_f (g : Int) (k : Nat) (hk : 201 ≤ k) : event_Blank.f k g = some (0, 0, 0, 0, 0, 0, -1, List.replicate (blanks g) (-1)) := by
  unfold event_Blank.f
  have e : 2 * ((mn (mx g 0) 99) + 1) = ((blanks g : Nat) : Int) := by unfold mn mx blanks; split <;> split <;> omega
  have h := blank_l0 (blanks g) (blanks g) (by unfold blanks; omega) 0 k [] (by omega) (by unfold blanks; omega) (by unfold blanks; simp only [List.length_nil]; omega)
  rw [e]
  exact h

theorem anchor14_f (k : Nat) (hk : 201 ≤ k) : clewlaw14_anchor.f k = some true := by
  unfold clewlaw14_anchor.f
  rw [blank_f 1 k hk, show blanks 1 = 4 by decide]
  have e : event_Name.f 7 = some ⟨#[97, 103, 97, 105, 110]⟩ := rfl
  simp only [Option.bind_some]
  rw [e]
  decide +kernel

theorem not_not_eq (b : Bool) : (!b) = true ↔ b = false := by cases b <;> simp
theorem spans_f (a0 a1 a2 a3 a4 a5 a6 : Int) (l : List Int) (g : Int) (hn : l.length ≤ 17592186044416) (hg : -9223372036854775808 ≤ g ∧ g ≤ 9223372036854775807) :
    clewlaw14_EventSpans.f 300 a0 a1 a2 a3 a4 a5 a6 l g = some true := by
  unfold clewlaw14_EventSpans.f
  rw [anchor14_f 300 (by decide), Option.bind_some, if_pos rfl]
  by_cases h0 : g < 0
  · have e : event_State_Span.f a0 a1 a2 a3 a4 a5 a6 l g = some (0, 0, false) := by unfold event_State_Span.f; rw [if_pos h0]
    rw [e]; simp only [Option.bind_some]; rw [if_pos h0]; rfl
  · have ew : wrap64 ((l.length : Int) / 2) = (l.length : Int) / 2 := by unfold wrap64; omega
    by_cases h1 : g ≥ (l.length : Int) / 2
    · have e : event_State_Span.f a0 a1 a2 a3 a4 a5 a6 l g = some (0, 0, false) := by unfold event_State_Span.f; rw [if_neg h0, ew, if_pos h1]
      rw [e]; simp only [Option.bind_some]; rw [if_neg h0, ew, if_pos h1]; rfl
    · have e2 : wrap64 (2 * g) = 2 * g := by clear ew; unfold wrap64; omega
      have e3 : wrap64 (2 * g + 1) = 2 * g + 1 := by clear ew e2; unfold wrap64; omega
      have q1 : (0 : Int) ≤ 2 * g := by clear ew e2 e3; omega
      have q2 : 2 * g < (l.length : Int) := by clear ew e2 e3; omega
      have q3 : (0 : Int) ≤ 2 * g + 1 := by clear ew e2 e3; omega
      have q4 : 2 * g + 1 < (l.length : Int) := by clear ew e2 e3; omega
      by_cases h2 : rd l (2 * g) < 0
      · have e : event_State_Span.f a0 a1 a2 a3 a4 a5 a6 l g = some (0, 0, false) := by
          unfold event_State_Span.f; rw [if_neg h0, ew, if_neg h1, e2, if_pos q1, if_pos q2, if_pos h2]
        rw [e]; simp only [Option.bind_some]; rw [if_neg h0, ew, if_neg h1, e2, if_pos q1, if_pos q2, if_pos h2]; rfl
      · by_cases h3 : rd l (2 * g + 1) < 0
        · have e : event_State_Span.f a0 a1 a2 a3 a4 a5 a6 l g = some (0, 0, false) := by
            unfold event_State_Span.f; rw [if_neg h0, ew, if_neg h1, e2, if_pos q1, if_pos q2, if_neg h2, e3, if_pos q3, if_pos q4, if_pos h3]
          rw [e]; simp only [Option.bind_some]; rw [if_neg h0, ew, if_neg h1, e2, if_pos q1, if_pos q2, if_neg h2, e3, if_pos q3, if_pos q4, if_pos h3]; rfl
        · have e : event_State_Span.f a0 a1 a2 a3 a4 a5 a6 l g = some (rd l (2 * g), rd l (2 * g + 1), true) := by
            unfold event_State_Span.f; rw [if_neg h0, ew, if_neg h1, e2, if_pos q1, if_pos q2, if_neg h2, e3, if_pos q3, if_pos q4, if_neg h3]
          rw [e]; simp only [Option.bind_some]; rw [if_neg h0, ew, if_neg h1, e2, if_pos q1, if_pos q2, if_neg h2, e3, if_pos q3, if_pos q4, if_neg h3]
          simp
theorem spans_row (a0 a1 a2 a3 a4 a5 a6 : Int) (A : Option Addr) (len cap : Nat) (z : List Int) (g : Int) (w : World)
    (w0 : (A = none ∧ len = 0 ∧ cap = 0 ∧ z = []) ∨ ∃ x, A = some x ∧ len ≤ cap ∧ cap ≤ maxLen ∧ z.length = cap ∧ (∀ i, i < z.length → w.cell? (x.add i) = some (.int .i64 (z.getD i 0))) ∧ ∀ n ∈ z, (Lit.int .i64 n).wf = true)
    (y0 : len * 8 ≤ 140737488351232) (w1 : (Lit.int .i64 g).wf = true) :
    Go.Calls Try.prog 5 #[.agg #[.int .i64 a0, .int .i64 a1, .int .i64 a2, .int .i64 a3, .int .i64 a4, .int .i64 a5, .int .i64 a6, .slice A len cap], .int .i64 g] w fun e w' => e = .returned (.bool true) ∧ Below w.heap.size w w' := by
  obtain ⟨l, rfl, hr, hm, hw, hc⟩ := ReadsInt.ofRowC w0
  exact clewlaw14_EventSpans.calls 300 _ _ _ _ _ _ _ _ _ l g true w (Kd.C_of_reads (d := (0 : Int)) (h1 := fun _ => rfl) hr) hc (spans_f _ _ _ _ _ _ _ l g (by omega) (bounds_i64 w1))

end Go.Proofs.Ytecfnbnngdpfiaa.Pure
