/- The pile's plain laws: where the barriers of a list of entries are. -/
import Derived.Test.YtlcglefbhlhcpaaKg
namespace Go.Proofs.Ytlcglefbhlhcpaa.K
/-- Where the barriers are. -/
def barIdx (l : List Ent) : List Int := ((List.range l.length).filter fun i => (l[i]?.map (fun e => e.bar)).getD false).map Int.ofNat
theorem barIdx_nil : barIdx [] = [] := rfl
theorem barIdx_snoc (l : List Ent) (e : Ent) : barIdx (l ++ [e]) = barIdx l ++ (if e.bar then [(l.length : Int)] else []) := by
  unfold barIdx
  rw [List.length_append, List.length_singleton, List.range_succ, List.filter_append, List.map_append]
  congr 1
  · congr 1
    apply List.filter_congr
    intro i hi
    have : i < l.length := by simpa using hi
    rw [List.getElem?_append_left this]
  · cases hb : e.bar <;> simp [hb]
theorem barIdx_len (l : List Ent) : (barIdx l).length ≤ l.length := by
  unfold barIdx
  rw [List.length_map]
  exact Nat.le_trans (List.length_filter_le _ _) (by simp)
/-- The topmost barrier: l = l1 ++ b :: l2, and none of l2 is one. -/
theorem bar_parts (l : List Ent) : (barIdx l = [] ∧ ∀ x ∈ l, x.bar = false) ∨ ∃ l1 b l2, l = l1 ++ b :: l2 ∧ b.bar = true ∧ (∀ x ∈ l2, x.bar = false) ∧ barIdx l = barIdx l1 ++ [(l1.length : Int)] := by
  obtain ⟨r, rfl⟩ : ∃ r, l = r.reverse := ⟨l.reverse, by simp⟩
  induction r with
  | nil => exact .inl ⟨rfl, by simp⟩
  | cons e r ih =>
    rw [List.reverse_cons, barIdx_snoc]
    cases he : e.bar with
    | true => exact .inr ⟨r.reverse, e, [], by simp, he, by simp, by simp⟩
    | false =>
      rcases ih with ⟨h1, h2⟩ | ⟨l1, b, l2, h1, h2, h3, h4⟩
      · exact .inl ⟨by simp [h1], fun x hx => by
          rcases List.mem_append.1 hx with hx | hx
          · exact h2 x hx
          · simp at hx; subst hx; exact he⟩
      · exact .inr ⟨l1, b, l2 ++ [e], by rw [h1]; simp, h2, fun x hx => by
          rcases List.mem_append.1 hx with hx | hx
          · exact h3 x hx
          · simp at hx; subst hx; exact he, by simp [h4]⟩
/-- Where the topmost barrier is; -1: there is none. -/
def barAt (l : List Ent) : Int := (barIdx l).getLast?.getD (-1)
theorem barAt_nil : barAt [] = -1 := rfl
theorem barAt_snoc (l : List Ent) (e : Ent) : barAt (l ++ [e]) = if e.bar then (l.length : Int) else barAt l := by
  unfold barAt
  rw [barIdx_snoc]
  cases e.bar <;> simp
theorem barAt_none {l : List Ent} (h : barIdx l = []) : barAt l = -1 := by unfold barAt; rw [h]; rfl
theorem barAt_some {l l1 : List Ent} (h : barIdx l = barIdx l1 ++ [(l1.length : Int)]) : barAt l = (l1.length : Int) := by unfold barAt; rw [h]; simp
theorem barIdx_pos {l l1 : List Ent} (h : barIdx l = barIdx l1 ++ [(l1.length : Int)]) : 0 < (barIdx l).length := by rw [h]; simp
theorem barIdx_last {l l1 : List Ent} (h : barIdx l = barIdx l1 ++ [(l1.length : Int)]) : (barIdx l)[(barIdx l).length - 1]? = some (l1.length : Int) := by rw [h]; simp
theorem barIdx_cut {l l1 : List Ent} (h : barIdx l = barIdx l1 ++ [(l1.length : Int)]) : (barIdx l).take ((barIdx l).length - 1) = barIdx l1 := by rw [h]; simp
theorem parts_at {l l1 l2 : List Ent} {b : Ent} (h : l = l1 ++ b :: l2) : l[l1.length]? = some b := by rw [h]; simp
theorem parts_take {l l1 l2 : List Ent} {b : Ent} (h : l = l1 ++ b :: l2) : l.take l1.length = l1 := by rw [h]; simp
/-- The entry on top; an empty one, if there is none. -/
def lastE (l : List Ent) : Ent := l.getLast?.getD Ent.none
theorem snoc_cases (l : List Ent) : l = [] ∨ ∃ l' e, l = l' ++ [e] := by
  rcases List.eq_nil_or_concat l with h | ⟨l', e, h⟩
  · exact .inl h
  · exact .inr ⟨l', e, by simpa using h⟩
theorem lastE_nil : lastE [] = Ent.none := rfl
theorem lastE_snoc (l : List Ent) (e : Ent) : lastE (l ++ [e]) = e := by simp [lastE]
theorem lastE_at {l : List Ent} (h : 0 < l.length) : l[l.length - 1]? = some (lastE l) := by
  rcases snoc_cases l with rfl | ⟨l', e, rfl⟩
  · simp at h
  · simp [lastE]
theorem pop_len (l : List Ent) (e : Ent) : (l ++ [e]).length - 1 = l.length := by simp
theorem pop_take (l : List Ent) (e : Ent) : (l ++ [e]).take ((l ++ [e]).length - 1) = l := by simp
theorem pop_bars {l : List Ent} {e : Ent} (h : e.bar = true) : (barIdx (l ++ [e])).take ((barIdx (l ++ [e])).length - 1) = barIdx l := by
  rw [barIdx_snoc, h]; simp
theorem pop_plain_bars {l : List Ent} {e : Ent} (h : e.bar = false) : barIdx (l ++ [e]) = barIdx l := by
  rw [barIdx_snoc, h]; simp
end Go.Proofs.Ytlcglefbhlhcpaa.K
