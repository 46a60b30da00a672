/- Any state may be, with any groups, just if the document says so: the law clewlaw14.EventRight answers true at every state and every number of groups. Conditions: none beyond the given row's. -/
import Derived.Test.YtecfnbnngdpfiaaRightx3
import Derived.OpenShut
namespace Go.Proofs.Ytecfnbnngdpfiaa.Pure
open Go.RowKit Go.Proofs.Ytecfnbnngdpfiaa.PEventRight Go.Proofs.YtecfnbnngdpfiaaW.PrintWords Go.Proofs.YtecfnbnngdpfiaaW.PrintLast Go.Proofs.YtecfnbnngdpfiaaW.PrintMore
open Go (IntKind Lit maxLen World Addr)

/-! ### a blank state -/
theorem blank_l0 (n d : Nat) (hn : n ≤ 1000) : ∀ (i k : Nat) (out : List Int), i + d = n → d < k → out.length + d ≤ 1000 →
    event_Blank.l0 k (n : Int) (i : Int) 0 0 0 0 0 0 (-1) out = some (0, 0, 0, 0, 0, 0, -1, out ++ List.replicate d (-1)) := by
  induction d with
  | zero =>
    intro i k out hi hk ho
    obtain ⟨k, rfl⟩ : ∃ m, k = m + 1 := ⟨k - 1, by omega⟩
    simp only [event_Blank.l0]
    rw [if_neg (show ¬ (i : Int) < (n : Int) by omega)]
    simp
  | succ d ih =>
    intro i k out hi hk ho
    obtain ⟨k, rfl⟩ : ∃ m, k = m + 1 := ⟨k - 1, by omega⟩
    have e : wrap64 ((i : Int) + 1) = ((i + 1 : Nat) : Int) := by unfold wrap64; omega
    simp only [event_Blank.l0]
    rw [if_pos (show (i : Int) < (n : Int) by omega), if_pos (by omega), e]
    clear e
    rw [ih (i + 1) k (out ++ [-1]) (by omega) (by omega) (by simp only [List.length_append, List.length_cons, List.length_nil]; omega)]
    rw [List.append_assoc, List.replicate_succ]
    rfl
/-- How many places a blank state has. -/
def blanks (g : Int) : Nat := (2 * (min (max g 0) 99 + 1)).toNat
theorem blank_f (g : Int) (k : Nat) (hk : 201 ≤ k) : event_Blank.f k g = some (0, 0, 0, 0, 0, 0, -1, List.replicate (blanks g) (-1)) := by
  unfold event_Blank.f
  have e : 2 * ((mn (mx g 0) 99) + 1) = ((blanks g : Nat) : Int) := by unfold mn mx blanks; split <;> split <;> omega
  have h := blank_l0 (blanks g) (blanks g) (by unfold blanks; omega) 0 k [] (by omega) (by unfold blanks; omega) (by unfold blanks; simp only [List.length_nil]; omega)
  rw [e]
  exact h

theorem anchor14_f (k : Nat) (hk : 201 ≤ k) : clewlaw14_anchor.f k = some true := by
  unfold clewlaw14_anchor.f
  rw [blank_f 1 k hk, show blanks 1 = 4 by decide]
  have e : event_Name.f 7 = some ⟨#[97, 103, 97, 105, 110]⟩ := rfl
  simp only [Option.bind_some]
  rw [e]
  decide +kernel

/-! ### which states may be -/
def inB (x a b : Int) : Bool := decide (a ≤ x) && decide (x ≤ b)
theorem within_f (x a b : Int) : event_within.f x a b = some (inB x a b) := by
  unfold event_within.f inB
  by_cases h : x ≥ a
  · rw [if_pos h]; simp [show a ≤ x from h]
  · rw [if_neg h]; simp [show ¬ a ≤ x from h]
/-- A State that may be, with so many groups. -/
def rightB (a0 a1 a2 a3 a4 a5 a6 : Int) (l : List Int) (g : Int) : Bool :=
  (inB g 0 99 && ((l.length : Int) == 2 * (g + 1))) && (inB a0 1 14 && inB a1 0 16384 && inB a2 0 16384) && (inB a3 0 65536 && inB a4 0 65536) && (inB a5 0 65536 && inB a6 (-1) 1048576) && !(l.any outB)
theorem right_j1 (a0 a1 a2 a3 a4 a5 a6 : Int) (l : List Int) (b : Bool) (k : Nat) (hk : 1 ≤ k) :
    event_State_Right.j1 k b a0 a1 a2 a3 a4 a5 a6 l = some (b && (inB a3 0 65536 && inB a4 0 65536) && (inB a5 0 65536 && inB a6 (-1) 1048576) && !(l.any outB)) := by
  obtain ⟨k, rfl⟩ : ∃ m, k = m + 1 := ⟨k - 1, by omega⟩
  simp only [event_State_Right.j1, within_f, Option.bind_some, slices_ContainsFunc_int_int.f]
  generalize inB a3 0 65536 = b3
  generalize inB a4 0 65536 = b4
  generalize inB a5 0 65536 = b5
  generalize inB a6 (-1) 1048576 = b6
  generalize l.any outB = bl
  cases b <;> cases b3 <;> cases b4 <;> cases b5 <;> cases b6 <;> simp
theorem right_j0 (a0 a1 a2 a3 a4 a5 a6 : Int) (l : List Int) (b : Bool) (k : Nat) (hk : 2 ≤ k) :
    event_State_Right.j0 k b a0 a1 a2 a3 a4 a5 a6 l = some (!b && (inB a0 1 14 && inB a1 0 16384 && inB a2 0 16384) && (inB a3 0 65536 && inB a4 0 65536) && (inB a5 0 65536 && inB a6 (-1) 1048576) && !(l.any outB)) := by
  obtain ⟨k, rfl⟩ : ∃ m, k = m + 1 := ⟨k - 1, by omega⟩
  have j1 := fun b => right_j1 a0 a1 a2 a3 a4 a5 a6 l b k (by omega)
  simp only [event_State_Right.j0, within_f, Option.bind_some, j1]
  generalize inB a0 1 14 = b0
  generalize inB a1 0 16384 = b1
  generalize inB a2 0 16384 = b2
  cases b <;> cases b0 <;> cases b1 <;> simp
theorem right_f (a0 a1 a2 a3 a4 a5 a6 : Int) (l : List Int) (g : Int) (k : Nat) (hk : 2 ≤ k) : event_State_Right.f k a0 a1 a2 a3 a4 a5 a6 l g = some (rightB a0 a1 a2 a3 a4 a5 a6 l g) := by
  unfold event_State_Right.f rightB
  rw [within_f, Option.bind_some]
  by_cases hg : inB g 0 99 = true
  · rw [if_pos hg, hg]
    have hg2 : 0 ≤ g ∧ g ≤ 99 := by simpa [inB] using hg
    have e2 : wrap64 (2 * wrap64 (g + 1)) = 2 * (g + 1) := by unfold wrap64; omega
    rw [e2, right_j0 _ _ _ _ _ _ _ _ _ _ hk]
    simp [bne]
  · rw [if_neg hg, right_j0 _ _ _ _ _ _ _ _ _ _ hk]
    simp only [Bool.not_eq_true] at hg
    rw [hg]
    simp

theorem lwithin_f (x a b : Int) : clewlaw14_within.f x a b = some (inB x a b) := by
  unfold clewlaw14_within.f inB
  by_cases h : x ≥ a
  · rw [if_pos h]; simp [show a ≤ x from h]
  · rw [if_neg h]; simp [show ¬ a ≤ x from h]
theorem all_snoc (l : List Int) (k : Nat) (h : k < l.length) : (l.take (k + 1)).any outB = ((l.take k).any outB || outB (rd l (k : Int))) := by
  rw [List.take_succ_eq_append_getElem h, List.any_append]
  simp only [List.any_cons, List.any_nil, Bool.or_false]
  congr 1
  unfold rd
  rw [Int.toNat_natCast, List.getD_eq_getElem?_getD, List.getElem?_eq_getElem h]
  rfl
theorem right_l0 (a0 a1 a2 a3 a4 a5 a6 : Int) (l : List Int) (g : Int) (hn : l.length ≤ 17592186044416) (b0 : Bool) (d : Nat) : ∀ (i k : Nat) (b : Bool), i + d = l.length → d + 3 ≤ k → b = (b0 && !((l.take i).any outB)) →
    clewlaw14_EventRight.l0 k g b l (l.length : Int) (i : Int) a0 a1 a2 a3 a4 a5 a6 l = some (rightB a0 a1 a2 a3 a4 a5 a6 l g == (b0 && !(l.any outB))) := by
  induction d with
  | zero =>
    intro i k b hi hk hb
    obtain ⟨k, rfl⟩ : ∃ m, k = m + 1 := ⟨k - 1, by omega⟩
    simp only [clewlaw14_EventRight.l0]
    rw [if_neg (show ¬ (i : Int) < (l.length : Int) by omega), right_f _ _ _ _ _ _ _ _ _ _ (by omega), Option.bind_some, hb, List.take_of_length_le (by omega)]
  | succ d ih =>
    intro i k b hi hk hb
    obtain ⟨k, rfl⟩ : ∃ m, k = m + 1 := ⟨k - 1, by omega⟩
    have e : wrap64 ((i : Int) + 1) = ((i + 1 : Nat) : Int) := by unfold wrap64; omega
    simp only [clewlaw14_EventRight.l0]
    rw [if_pos (show (i : Int) < (l.length : Int) by omega), if_pos (show (0 : Int) ≤ (i : Int) by omega), if_pos (show (i : Int) < (l.length : Int) by omega), e]
    clear e
    have hs := all_snoc l i (by omega)
    cases b with
    | true =>
      rw [if_pos rfl, lwithin_f, Option.bind_some]
      refine ih (i + 1) k _ (by omega) (by omega) ?_
      rw [hs]
      have h2 : inB (rd l (i : Int)) (-1) 65536 = !(outB (rd l (i : Int))) := by unfold inB outB; simp
      rw [h2]
      revert hb
      cases b0 <;> cases (l.take i).any outB <;> simp
    | false =>
      rw [if_neg (by decide)]
      refine ih (i + 1) k _ (by omega) (by omega) ?_
      rw [hs]
      revert hb
      cases b0 <;> cases (l.take i).any outB <;> simp
theorem right_lj1 (a0 a1 a2 a3 a4 a5 a6 : Int) (l : List Int) (g : Int) (hn : l.length ≤ 17592186044416) (b : Bool) (k : Nat) (hk : l.length + 4 ≤ k) :
    clewlaw14_EventRight.j1 k g b a0 a1 a2 a3 a4 a5 a6 l = some (rightB a0 a1 a2 a3 a4 a5 a6 l g == (b && !(l.any outB))) := by
  obtain ⟨k, rfl⟩ : ∃ m, k = m + 1 := ⟨k - 1, by omega⟩
  simp only [clewlaw14_EventRight.j1]
  exact right_l0 a0 a1 a2 a3 a4 a5 a6 l g hn b l.length 0 k b (by omega) (by omega) (by simp)
theorem right_lj0 (a0 a1 a2 a3 a4 a5 a6 : Int) (l : List Int) (g : Int) (hn : l.length ≤ 17592186044416) (b : Bool) (k : Nat) (hk : l.length + 5 ≤ k) :
    clewlaw14_EventRight.j0 k g b a0 a1 a2 a3 a4 a5 a6 l = some (rightB a0 a1 a2 a3 a4 a5 a6 l g == ((b && ((l.length : Int) == wrap64 (wrap64 (2 * g) + 2))) && !(l.any outB))) := by
  obtain ⟨k, rfl⟩ : ∃ m, k = m + 1 := ⟨k - 1, by omega⟩
  simp only [clewlaw14_EventRight.j0]
  cases b with
  | true => rw [if_pos rfl, right_lj1 _ _ _ _ _ _ _ _ _ hn _ _ (by omega)]; rfl
  | false => rw [if_neg (by decide), right_lj1 _ _ _ _ _ _ _ _ _ hn _ _ (by omega)]; rfl
theorem right_law (a0 a1 a2 a3 a4 a5 a6 : Int) (l : List Int) (g : Int) (hn : l.length ≤ 17592186044416) :
    clewlaw14_EventRight.f (l.length + 300) a0 a1 a2 a3 a4 a5 a6 l g = some true := by
  unfold clewlaw14_EventRight.f
  have hj := fun b => right_lj0 a0 a1 a2 a3 a4 a5 a6 l g hn b (l.length + 300) (by omega)
  rw [anchor14_f _ (by omega), Option.bind_some, if_pos rfl]
  simp only [lwithin_f, Option.bind_some, hj]
  have hw : inB g 0 99 = true → wrap64 (wrap64 (2 * g) + 2) = 2 * (g + 1) := by
    intro hg
    have hg2 : 0 ≤ g ∧ g ≤ 99 := by simpa [inB] using hg
    unfold wrap64; omega
  unfold rightB
  generalize wrap64 (wrap64 (2 * g) + 2) = W at hw ⊢
  generalize inB a0 1 14 = b0
  generalize inB a1 0 16384 = b1
  generalize inB a2 0 16384 = b2
  generalize inB a3 0 65536 = b3
  generalize inB a4 0 65536 = b4
  generalize inB a5 0 65536 = b5
  generalize inB a6 (-1) 1048576 = b6
  generalize l.any outB = bl
  cases hg : inB g 0 99 with
  | false => simp
  | true =>
    rw [hw hg]
    generalize ((l.length : Int) == 2 * (g + 1)) = bn
    cases b0 <;> cases b1 <;> cases b2 <;> cases b3 <;> cases b4 <;> cases b5 <;> cases b6 <;> cases bn <;> simp
theorem right_row (a0 a1 a2 a3 a4 a5 a6 : Int) (A : Option Addr) (len cap : Nat) (z : List Int) (g : Int) (w : World)
    (w0 : (A = none ∧ len = 0 ∧ cap = 0 ∧ z = []) ∨ ∃ x, A = some x ∧ len ≤ cap ∧ cap ≤ maxLen ∧ z.length = cap ∧ (∀ i, i < z.length → w.cell? (x.add i) = some (.int .i64 (z.getD i 0))) ∧ ∀ n ∈ z, (Lit.int .i64 n).wf = true)
    (y0 : len * 8 ≤ 140737488351232) :
    Go.Calls Try.prog 6 #[.agg #[.int .i64 a0, .int .i64 a1, .int .i64 a2, .int .i64 a3, .int .i64 a4, .int .i64 a5, .int .i64 a6, .slice A len cap], .int .i64 g] w fun e w' => e = .returned (.bool true) ∧ Below w.heap.size w w' := by
  obtain ⟨l, rfl, hr, hm, hw, hc⟩ := ReadsInt.ofRowC w0
  exact clewlaw14_EventRight.calls _ _ _ _ _ _ _ _ _ _ l g true w (Kd.C_of_reads (d := (0 : Int)) (h1 := fun _ => rfl) hr) hc (right_law _ _ _ _ _ _ _ l g (by omega))

end Go.Proofs.Ytecfnbnngdpfiaa.Pure
