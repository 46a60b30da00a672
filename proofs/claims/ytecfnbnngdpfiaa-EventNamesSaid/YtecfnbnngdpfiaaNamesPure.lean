/- Any kind's name is the document's, and a blank state has nothing but unset places: the law clewlaw14.EventNames answers true at every kind and every number of groups. Conditions: none beyond the given row's. -/
import Derived.Test.YtecfnbnngdpfiaaNamesB
import Derived.Test.YtecfnbnngdpfiaaNamesC
import Derived.Test.YtecfnbnngdpfiaaNamesD
import Derived.OpenShut
namespace Go.Proofs.Ytecfnbnngdpfiaa.Pure
open Go.RowKit Go.Proofs.Ytecfnbnngdpfiaa.PEventNames Go.Proofs.YtecfnbnngdpfiaaW.PrintWords Go.Proofs.YtecfnbnngdpfiaaW.PrintLast Go.Proofs.YtecfnbnngdpfiaaW.PrintMore
open Go (IntKind Lit maxLen World Addr)

/-! ### a blank state -/
theorem blank_l0 (n d : Nat) (hn : n ≤ 1000) : ∀ (i k : Nat) (out : List Int), i + d = n → d < k → out.length + d ≤ 1000 →
    event_Blank.l0 k (n : Int) (i : Int) 0 0 0 0 0 0 (-1) out = some (0, 0, 0, 0, 0, 0, -1, out ++ List.replicate d (-1)) := by
  induction d with
  | zero =>
    intro i k out hi hk ho
    obtain ⟨k, rfl⟩ : ∃ m, k = m + 1 := ⟨k - 1, by omega⟩
    simp only [event_Blank.l0]
    rw [if_neg (show ¬ (i : Int) < (n : Int) by omega)]
    simp
  | succ d ih =>
    intro i k out hi hk ho
    obtain ⟨k, rfl⟩ : ∃ m, k = m + 1 := ⟨k - 1, by omega⟩
    have e : wrap64 ((i : Int) + 1) = ((i + 1 : Nat) : Int) := by unfold wrap64; omega
    simp only [event_Blank.l0]
    rw [if_pos (show (i : Int) < (n : Int) by omega), if_pos (by omega), e]
    clear e
    rw [ih (i + 1) k (out ++ [-1]) (by omega) (by omega) (by simp only [List.length_append, List.length_cons, List.length_nil]; omega)]
    rw [List.append_assoc, List.replicate_succ]
    rfl
/-- How many places a blank state has. -/
def blanks (g : Int) : Nat := (2 * (min (max g 0) 99 + 1)).toNat
theorem blank_f (g : Int) (k : Nat) (hk : 201 ≤ k) : event_Blank.f k g = some (0, 0, 0, 0, 0, 0, -1, List.replicate (blanks g) (-1)) := by
  unfold event_Blank.f
  have e : 2 * ((mn (mx g 0) 99) + 1) = ((blanks g : Nat) : Int) := by unfold mn mx blanks; split <;> split <;> omega
  have h := blank_l0 (blanks g) (blanks g) (by unfold blanks; omega) 0 k [] (by omega) (by unfold blanks; omega) (by unfold blanks; simp only [List.length_nil]; omega)
  rw [e]
  exact h

theorem anchor14n_f (k : Nat) (hk : 201 ≤ k) : clewlaw14_anchor.f k = some true := by
  unfold clewlaw14_anchor.f
  rw [blank_f 1 k hk, show blanks 1 = 4 by decide]
  have e : event_Name.f 7 = some ⟨#[97, 103, 97, 105, 110]⟩ := rfl
  simp only [Option.bind_some]
  rw [e]
  decide +kernel
theorem names_row (kind g : Int) (w : World) : Go.Calls Try.prog 4 #[.int .i64 kind, .int .i64 g] w fun e w' => e = .returned (.bool true) ∧ Below w.heap.size w w' := by
  have ha := anchor14n_f 300 (by decide)
  have hb := blank_f g 300 (by decide)
  have hn : blanks g ≤ 200 := by unfold blanks; omega
  obtain ⟨M1, h1⟩ : ∃ M, (if g < 0 then 0 else g) = M := ⟨_, rfl⟩
  obtain ⟨M2, h2⟩ : ∃ M, (if 99 < M1 then 99 else M1) = M := ⟨_, rfl⟩
  have h3 : 0 ≤ M2 := by rw [← h2, ← h1]; split <;> split <;> omega
  have h4 : M2 ≤ 99 := by rw [← h2]; split <;> omega
  have hM : M2 = min (max g 0) 99 := by rw [← h2, ← h1]; split <;> split <;> omega
  have h5 : (((blanks g : Nat) : Int) != 2 * M2 + 2) = false := by
    rw [bne_eq_false_iff_eq, hM]; unfold blanks; omega
  clear hM
  by_cases k1 : kind < 1
  · exact names_low kind (decide_eq_false (by omega)) (decide_eq_true k1) 300 g _ w ha hb hn M1 M2 h1 h2 h3 h4 h5
  · by_cases k2 : 14 < kind
    · exact names_high kind (decide_eq_true (by omega)) (decide_eq_false k1) (decide_eq_false (by omega)) (decide_eq_true k2) 300 g _ w ha hb hn M1 M2 h1 h2 h3 h4 h5
    · have hc : kind = 1 ∨ kind = 2 ∨ kind = 3 ∨ kind = 4 ∨ kind = 5 ∨ kind = 6 ∨ kind = 7 ∨ kind = 8 ∨ kind = 9 ∨ kind = 10 ∨ kind = 11 ∨ kind = 12 ∨ kind = 13 ∨ kind = 14 := by omega
      rcases hc with rfl | rfl | rfl | rfl | rfl | rfl | rfl | rfl | rfl | rfl | rfl | rfl | rfl | rfl
      · exact names_at1 300 g _ w ha hb hn M1 M2 h1 h2 h3 h4 h5
      · exact names_at2 300 g _ w ha hb hn M1 M2 h1 h2 h3 h4 h5
      · exact names_at3 300 g _ w ha hb hn M1 M2 h1 h2 h3 h4 h5
      · exact names_at4 300 g _ w ha hb hn M1 M2 h1 h2 h3 h4 h5
      · exact names_at5 300 g _ w ha hb hn M1 M2 h1 h2 h3 h4 h5
      · exact names_at6 300 g _ w ha hb hn M1 M2 h1 h2 h3 h4 h5
      · exact names_at7 300 g _ w ha hb hn M1 M2 h1 h2 h3 h4 h5
      · exact names_at8 300 g _ w ha hb hn M1 M2 h1 h2 h3 h4 h5
      · exact names_at9 300 g _ w ha hb hn M1 M2 h1 h2 h3 h4 h5
      · exact names_at10 300 g _ w ha hb hn M1 M2 h1 h2 h3 h4 h5
      · exact names_at11 300 g _ w ha hb hn M1 M2 h1 h2 h3 h4 h5
      · exact names_at12 300 g _ w ha hb hn M1 M2 h1 h2 h3 h4 h5
      · exact names_at13 300 g _ w ha hb hn M1 M2 h1 h2 h3 h4 h5
      · exact names_at14 300 g _ w ha hb hn M1 M2 h1 h2 h3 h4 h5

end Go.Proofs.Ytecfnbnngdpfiaa.Pure
