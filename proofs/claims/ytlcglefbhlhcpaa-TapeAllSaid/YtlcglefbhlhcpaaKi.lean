/- A region whose calls and new memory may come in several orders: a tree of scripts. -/
import Derived.Test.YtlcglefbhlhcpaaKh
namespace Go.Proofs.Ytlcglefbhlhcpaa.K
open Go.RowKit
set_option linter.unusedVariables false
/-- one: number i is the next, alone; alt: number i is the next (it turns no old block), or as u says; altl: the same, but it may turn what it likes. -/
inductive Tr where
  | done
  | one (i : Nat) (k : Kind) (r : Tr)
  | alt (i : Nat) (r u : Tr)
  | altl (i : Nat) (r u : Tr)
  | none
/-- Q, but what comes behind is Z. -/
def Qn (Q : Exit → Act → World → Prop) (Z : Act → World → Prop) : Exit → Act → World → Prop
  | .normal, a, w => Z a w
  | e, a, w => Q e a w
section
variable {P : Program} {ops : Array Oper} {Q : Exit → Act → World → Prop}
theorem wpOp_Qn {Z K : Act → World → Prop} {i : Nat} {a : Act} {w : World} (h : wpOp P ops (Qn Q Z) i K a w) : wpOp P ops Q i K a w := by
  unfold wpOp at *
  cases hi : ops[i]? with
  | none => rw [hi] at h; exact h
  | some o =>
    rw [hi] at h
    dsimp only at h ⊢
    split
    · rename_i hw
      rw [if_pos hw] at h
      rcases h with h | h
      · refine .inl ?_
        unfold Oper.wp at *
        generalize (execOp a.eval o).run P w = r at *
        cases r with
        | ok n w' =>
          cases n <;> simp only [Oper.upon] at h ⊢ <;>
            first
              | exact h
              | exact Calls.mono h (fun e w'' he => by cases e <;> exact he)
              | exact Rows.mono h (fun _ _ he => he)
        | halt x w' => cases x <;> simp only [Oper.upon] at h ⊢ <;> exact h
      · exact .inr h
    · rename_i hw
      rw [if_neg hw] at h
      exact h
def RunT (P : Program) (ops : Array Oper) (Q : Exit → Act → World → Prop) : Tr → Act → World → Prop
  | .done, a, w => Q .normal a w
  | .one i k r, a, w => Run P ops (Qn Q (RunT P ops Q r)) [(i, k)] a w
  | .alt i r u, a, w => Run P ops (Qn Q (RunT P ops Q r)) [(i, .e)] a w ∧ RunT P ops Q u a w
  | .altl i r u, a, w => Run P ops (Qn Q (RunT P ops Q r)) [(i, .l)] a w ∧ RunT P ops Q u a w
  | .none, _, _ => True
/-- The operations that may turn what they like. -/
def firstT : Tr → List Nat
  | .done => []
  | .one i .l r => i :: firstT r
  | .one _ _ r => firstT r
  | .alt _ r u => firstT r ++ firstT u
  | .altl i r u => i :: (firstT r ++ firstT u)
  | .none => []
def heads : Tr → List Nat
  | .alt i _ u => i :: heads u
  | .altl i _ u => i :: heads u
  | _ => []
/-- all the ready ones are heads -/
def cover (ops : Array Oper) (n : Nat) (m : Nat) (l : List Nat) : Bool := (List.range n).all fun j => !rdy ops n m j || l.any (Nat.beq j)
/-- b: the orders of this tree are covered already (it is what is left of a fork) -/
def chkT (ops : Array Oper) (n : Nat) (W : List Nat) : Tr → Nat → Bool → Bool
  | .done, m, b => !b && (List.range n).all fun j => m.testBit j
  | .one i .p r, m, b => !b && rdy ops n m i && freeB ops n m i && chkT ops n W r (m ||| 2 ^ i) false
  | .one i .t r, m, b => !b && rdy ops n m i && freeB ops n m i && (firstT r).all (fun d => (W.getD d 0).testBit i) && chkT ops n W r (m ||| 2 ^ i) false
  | .one i .e r, m, b => !b && rdy ops n m i && lone1 ops n m i && chkT ops n W r (m ||| 2 ^ i) false
  | .one i .l r, m, b => !b && rdy ops n m i && lone1 ops n m i && chkT ops n W r (m ||| 2 ^ i) false
  | .alt i r u, m, b => rdy ops n m i && (b || cover ops n m (i :: heads u)) && chkT ops n W r (m ||| 2 ^ i) false && chkT ops n W u m true
  | .altl i r u, m, b => rdy ops n m i && (b || cover ops n m (i :: heads u)) && chkT ops n W r (m ||| 2 ^ i) false && chkT ops n W u m true
  | .none, m, b => b
theorem wpB_sub {D D' : Nat → Prop} : ∀ (fuel : Nat) (listed : Array Bool) (a : Act) (w : World), (∀ j, D j → D' j) →
    wpB P ops Q D fuel listed a w → wpB P ops Q D' fuel listed a w
  | 0, _, _, _, _, h => h
  | fuel + 1, listed, _, _, hD, h => ⟨h.1, fun i hi => wpOp_mono (fun a' w' h' => ⟨fun hn => h'.1 (fun hd => hn (hD _ hd)), wpB_sub fuel _ a' w' hD h'.2⟩) (h.2 i hi)⟩
def depthT : Tr → Nat
  | .done => 0
  | .one _ _ r => depthT r + 1
  | .alt _ r u => max (depthT r + 1) (depthT u)
  | .altl _ r u => max (depthT r + 1) (depthT u)
  | .none => 0
theorem runT_sound {n : Nat} {W : List Nat} (hn : ops.size = n) (hW : wOk ops n W = true) (hs : Region.noSelect ops = true) (hQ : ∀ c a d v w, Q (.panic c) (Act.put a (some d) v) w → Q (.panic c) a w) :
    ∀ (t : Tr), (∀ (m fuel : Nat) (a : Act) (w : World), depthT t ≤ fuel → chkT ops n W t m false = true → Closed ops (arr n m) → RunT P ops Q t a w → wpB P ops Q (· ∈ firstT t) fuel (arr n m) a w)
      ∧ (∀ (m fuel : Nat) (a : Act) (w : World), depthT t ≤ fuel + 1 → chkT ops n W t m true = true → Closed ops (arr n m) → RunT P ops Q t a w → ∀ i ∈ heads t, wpOp P ops Q i (fun a' w' => (i ∉ firstT t → Bel w w') ∧ wpB P ops Q (· ∈ firstT t) fuel ((arr n m).setIfInBounds i true) a' w') a w) := by
  have hQ' : ∀ (oi : Oper) (v : Value) c a w, Q (.panic c) (a.put oi.dst v) w → Q (.panic c) a w := by
    intro oi v c a w h
    cases hd : oi.dst with
    | none => rw [hd] at h; exact h
    | some d => rw [hd] at h; exact hQ c a d v w h
  intro t
  induction t with
  | done =>
    refine ⟨?_, fun m fuel a w _ h => by simp [chkT] at h⟩
    intro m fuel a w _ h _ hq
    simp only [chkT, Bool.not_false, Bool.true_and] at h
    have hr : Region.ready .any ops (arr n m) = [] := by
      rw [List.eq_nil_iff_forall_not_mem]
      intro j hj
      have hlt := ready_lt hj
      have h1 := List.all_eq_true.1 h j (List.mem_range.2 (hn ▸ hlt))
      have h2 := (mem_ready.1 hj).1
      rw [arr_get true (hn ▸ hlt), h1] at h2
      cases h2
    cases fuel with
    | zero => exact ⟨hr, hq⟩
    | succ k => exact ⟨fun _ => hq, fun j hj => by rw [hr] at hj; cases hj⟩
  | none => exact ⟨fun m fuel a w _ h => by simp [chkT] at h, fun m fuel a w _ _ _ _ i hi => by cases hi⟩
  | one i k r ih =>
    refine ⟨?_, fun m fuel a w _ h _ _ j hj => by cases hj⟩
    intro m fuel a w hf h hc hrun
    obtain ⟨fuel, rfl⟩ : ∃ f, fuel = f + 1 := ⟨fuel - 1, by simp only [depthT] at hf; omega⟩
    have hf' : depthT r ≤ fuel := by simp only [depthT] at hf; omega
    cases k with
    | p =>
      simp only [chkT, Bool.and_eq_true] at h
      obtain ⟨⟨⟨_, h1⟩, h2⟩, h3⟩ := h
      obtain ⟨oi, v, hoi, hy, hrest⟩ := hrun
      have hi := (rdy_iff hn).2 h1
      refine wpB_any hoi (Region.noSelect_spec hs) (hQ' oi v) fuel _ a w (free_spec hn hoi h2) hi hy ?_
      rw [arr_set]
      exact ih.1 _ fuel _ w hf' h3 (by rw [← arr_set]; exact hc.set hi) hrest
    | t =>
      simp only [chkT, Bool.and_eq_true] at h
      obtain ⟨⟨⟨⟨_, h1⟩, h2⟩, h4⟩, h3⟩ := h
      obtain ⟨oi, v, hoi, hy, hrest⟩ := hrun
      have hi := (rdy_iff hn).2 h1
      refine wpB_first (S := Bel w) (fun a b h k => h.trans (k.mono h.size)) hoi (Region.noSelect_spec hs) (hQ' oi v) fuel _ a w (free_spec hn hoi h2) hc ?_ hi hy (Below.refl _ _) ?_
      · intro d hd L hL hun hdr
        obtain ⟨_, o, ho, hall⟩ := mem_ready.1 hdr
        have := w_listed hn hW hL i d o ho hall (List.all_eq_true.1 h4 d hd)
        rw [unlisted_false hun] at this
        cases this
      · rw [arr_set]
        exact ih.1 _ fuel _ w hf' h3 (by rw [← arr_set]; exact hc.set hi) hrest
    | e =>
      simp only [chkT, Bool.and_eq_true] at h
      obtain ⟨⟨⟨_, h1⟩, h2⟩, h3⟩ := h
      have hi := (rdy_iff hn).2 h1
      refine ⟨fun h0 => (by rw [h0] at hi; cases hi), fun j hj => ?_⟩
      obtain rfl := lone_spec hn h2 hj
      refine wpOp_mono (fun a' w' hh => ⟨fun _ => hh.1, ?_⟩) (wpOp_Qn (Z := RunT P ops Q r) (K := fun a' w' => Bel w w' ∧ RunT P ops Q r a' w') hrun)
      rw [arr_set]
      exact ih.1 _ fuel _ w' hf' h3 (by rw [← arr_set]; exact hc.set hi) hh.2
    | l =>
      simp only [chkT, Bool.and_eq_true] at h
      obtain ⟨⟨⟨_, h1⟩, h2⟩, h3⟩ := h
      have hi := (rdy_iff hn).2 h1
      refine ⟨fun h0 => (by rw [h0] at hi; cases hi), fun j hj => ?_⟩
      obtain rfl := lone_spec hn h2 hj
      refine wpOp_mono (fun a' w' hh => ⟨fun hd => absurd (List.mem_cons_self) hd, ?_⟩) (wpOp_Qn (Z := RunT P ops Q r) (K := fun a' w' => RunT P ops Q r a' w') hrun)
      rw [arr_set]
      exact wpB_sub fuel _ a' w' (fun k hk => List.mem_cons_of_mem _ hk) (ih.1 _ fuel _ w' hf' h3 (by rw [← arr_set]; exact hc.set hi) hh)
  | alt i r u ihr ihu =>
    have key : ∀ (m fuel : Nat) (a : Act) (w : World), depthT (.alt i r u) ≤ fuel + 1 → rdy ops n m i = true → chkT ops n W r (m ||| 2 ^ i) false = true → chkT ops n W u m true = true → Closed ops (arr n m) → RunT P ops Q (.alt i r u) a w → ∀ j ∈ heads (.alt i r u), wpOp P ops Q j (fun a' w' => (j ∉ firstT (.alt i r u) → Bel w w') ∧ wpB P ops Q (· ∈ firstT (.alt i r u)) fuel ((arr n m).setIfInBounds j true) a' w') a w := by
      intro m fuel a w hf h1 h2 h3 hc hrun j hj
      simp only [depthT] at hf
      rcases List.mem_cons.1 hj with rfl | hj
      · have hi := (rdy_iff hn).2 h1
        refine wpOp_mono (fun a' w' hh => ⟨fun _ => hh.1, ?_⟩) (wpOp_Qn (Z := RunT P ops Q r) (K := fun a' w' => Bel w w' ∧ RunT P ops Q r a' w') hrun.1)
        rw [arr_set]
        refine wpB_sub fuel _ a' w' (fun k hk => List.mem_append_left _ hk) (ihr.1 _ fuel _ w' (by omega) h2 (by rw [← arr_set]; exact hc.set hi) hh.2)
      · refine wpOp_mono (fun a' w' hh => ⟨fun hn => hh.1 (fun hk => hn (List.mem_append_right _ hk)), wpB_sub fuel _ a' w' (fun k hk => List.mem_append_right _ hk) hh.2⟩) (ihu.2 m fuel a w (by omega) h3 hc hrun.2 j hj)
    refine ⟨?_, ?_⟩
    · intro m fuel a w hf h hc hrun
      obtain ⟨fuel, rfl⟩ : ∃ f, fuel = f + 1 := ⟨fuel - 1, by simp only [depthT] at hf; omega⟩
      simp only [chkT, Bool.and_eq_true, Bool.false_or] at h
      obtain ⟨⟨⟨h1, hcov⟩, h2⟩, h3⟩ := h
      have hi := (rdy_iff hn).2 h1
      refine ⟨fun h0 => (by rw [h0] at hi; cases hi), fun j hj => ?_⟩
      have hlt := ready_lt hj
      have hj2 : j ∈ heads (.alt i r u) := by
        have := List.all_eq_true.1 hcov j (List.mem_range.2 (hn ▸ hlt))
        rw [(rdy_iff hn).1 hj] at this
        simp only [Bool.not_true, Bool.false_or, List.any_eq_true] at this
        obtain ⟨k, hk, hb⟩ := this
        obtain rfl := Nat.eq_of_beq_eq_true hb
        exact hk
      exact wpOp_mono (fun a' w' hh => ⟨hh.1, hh.2⟩) (key m fuel a w hf h1 h2 h3 hc hrun j hj2)
    · intro m fuel a w hf h hc hrun
      simp only [chkT, Bool.and_eq_true] at h
      obtain ⟨⟨⟨h1, hcov⟩, h2⟩, h3⟩ := h
      exact key m fuel a w hf h1 h2 h3 hc hrun
  | altl i r u ihr ihu =>
    have key : ∀ (m fuel : Nat) (a : Act) (w : World), depthT (.altl i r u) ≤ fuel + 1 → rdy ops n m i = true → chkT ops n W r (m ||| 2 ^ i) false = true → chkT ops n W u m true = true → Closed ops (arr n m) → RunT P ops Q (.altl i r u) a w → ∀ j ∈ heads (.altl i r u), wpOp P ops Q j (fun a' w' => (j ∉ firstT (.altl i r u) → Bel w w') ∧ wpB P ops Q (· ∈ firstT (.altl i r u)) fuel ((arr n m).setIfInBounds j true) a' w') a w := by
      intro m fuel a w hf h1 h2 h3 hc hrun j hj
      simp only [depthT] at hf
      rcases List.mem_cons.1 hj with rfl | hj
      · have hi := (rdy_iff hn).2 h1
        refine wpOp_mono (fun a' w' hh => ⟨fun hn => absurd List.mem_cons_self hn, ?_⟩) (wpOp_Qn (Z := RunT P ops Q r) (K := fun a' w' => RunT P ops Q r a' w') hrun.1)
        rw [arr_set]
        refine wpB_sub fuel _ a' w' (fun k hk => List.mem_cons_of_mem _ (List.mem_append_left _ hk)) (ihr.1 _ fuel _ w' (by omega) h2 (by rw [← arr_set]; exact hc.set hi) hh)
      · refine wpOp_mono (fun a' w' hh => ⟨fun hn => hh.1 (fun hk => hn (List.mem_cons_of_mem _ (List.mem_append_right _ hk))), wpB_sub fuel _ a' w' (fun k hk => List.mem_cons_of_mem _ (List.mem_append_right _ hk)) hh.2⟩) (ihu.2 m fuel a w (by omega) h3 hc hrun.2 j hj)
    refine ⟨?_, ?_⟩
    · intro m fuel a w hf h hc hrun
      obtain ⟨fuel, rfl⟩ : ∃ f, fuel = f + 1 := ⟨fuel - 1, by simp only [depthT] at hf; omega⟩
      simp only [chkT, Bool.and_eq_true, Bool.false_or] at h
      obtain ⟨⟨⟨h1, hcov⟩, h2⟩, h3⟩ := h
      have hi := (rdy_iff hn).2 h1
      refine ⟨fun h0 => (by rw [h0] at hi; cases hi), fun j hj => ?_⟩
      have hlt := ready_lt hj
      have hj2 : j ∈ heads (.altl i r u) := by
        have := List.all_eq_true.1 hcov j (List.mem_range.2 (hn ▸ hlt))
        rw [(rdy_iff hn).1 hj] at this
        simp only [Bool.not_true, Bool.false_or, List.any_eq_true] at this
        obtain ⟨k, hk, hb⟩ := this
        obtain rfl := Nat.eq_of_beq_eq_true hb
        exact hk
      exact wpOp_mono (fun a' w' hh => ⟨hh.1, hh.2⟩) (key m fuel a w hf h1 h2 h3 hc hrun j hj2)
    · intro m fuel a w hf h hc hrun
      simp only [chkT, Bool.and_eq_true] at h
      obtain ⟨⟨⟨h1, hcov⟩, h2⟩, h3⟩ := h
      exact key m fuel a w hf h1 h2 h3 hc hrun
theorem region_tree {id n : Nat} (t : Tr) (W : List Nat) {F : List Nat} {w0 : World} {hp : List Ck} {a : Act} {w : World} (S : St F w0 w hp) (hm : P.follows .mixedOrders = true) (hn : ops.size = n) (hl : Nat.ble (depthT t) n = true)
    (hk : (wOk ops n W && Region.noSelect ops && chkT ops n W t 0 false) = true) (hQ : ∀ c a d v w, Q (.panic c) (Act.put a (some d) v) w → Q (.panic c) a w)
    (h : ∀ w', St F w0 w' hp → Bel w w' → RunT P ops Q t a w') : (Code.region id ops true).wp P Q a w := by
  simp only [Bool.and_eq_true] at hk
  obtain ⟨⟨hW, hs⟩, hc⟩ := hk
  refine wp_region_any hm (wpAny_of_B (D := (· ∈ firstT t)) _ _ _ _ ?_)
  rw [hn, arr_zero]
  refine (runT_sound hn hW hs hQ t).1 0 n a w.drew (by have := Nat.le_of_ble_eq_true hl; omega) hc ?_ (h _ S.drew (Below.refl _ _).drew)
  intro j oj _ hb
  rcases Nat.lt_or_ge j n with hj | hj
  · rw [arr_get false hj] at hb; simp at hb
  · rw [arr_out false hj] at hb; cases hb
theorem RunT.one {i : Nat} {k : Kind} {r : Tr} {a : Act} {w : World} (h : Run P ops (Qn Q (RunT P ops Q r)) [(i, k)] a w) : RunT P ops Q (.one i k r) a w := h
theorem RunT.alt {i : Nat} {r u : Tr} {a : Act} {w : World} (h : Run P ops (Qn Q (RunT P ops Q r)) [(i, .e)] a w) (h' : RunT P ops Q u a w) : RunT P ops Q (.alt i r u) a w := ⟨h, h'⟩
theorem RunT.altl {i : Nat} {r u : Tr} {a : Act} {w : World} (h : Run P ops (Qn Q (RunT P ops Q r)) [(i, .l)] a w) (h' : RunT P ops Q u a w) : RunT P ops Q (.altl i r u) a w := ⟨h, h'⟩
theorem RunT.end {Z : Act → World → Prop} {a : Act} {w : World} (h : Z a w) : Run P ops (Qn Q Z) [] a w := h
theorem RunT.done {a : Act} {w : World} (h : Q .normal a w) : RunT P ops Q .done a w := h
theorem RunT.none {a : Act} {w : World} : RunT P ops Q .none a w := trivial
end
end Go.Proofs.Ytlcglefbhlhcpaa.K
