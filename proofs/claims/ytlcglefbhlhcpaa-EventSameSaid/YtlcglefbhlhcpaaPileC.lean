/- The pile's contracts, whatever it holds. -/
import Derived.Test.YtlcglefbhlhcpaaPileB
namespace Go.Proofs.Ytlcglefbhlhcpaa.K
open Go.RowKit
set_option linter.unusedVariables false
/-- The topmost barrier; an empty entry, if there is none. -/
def barE (l : List Ent) : Ent := if 0 ≤ barAt l then (l[(barAt l).toNat]?).getD Ent.none else Ent.none
/-- What is left behind a cut. -/
def cutL (l : List Ent) : List Ent := if 0 ≤ barAt l then l.take (barAt l).toNat else l
theorem cutL_none {l : List Ent} (h : barAt l = -1) : cutL l = l := by unfold cutL; rw [if_neg (by omega)]
theorem barE_none {l : List Ent} (h : barAt l = -1) : barE l = Ent.none := by unfold barE; rw [if_neg (by omega)]
theorem cutL_some {l l1 l2 : List Ent} {b : Ent} (hl : l = l1 ++ b :: l2) (h : barIdx l = barIdx l1 ++ [(l1.length : Int)]) : cutL l = l1 := by
  unfold cutL; rw [barAt_some h, if_pos (by omega), Int.toNat_natCast]; exact parts_take hl
theorem barE_some {l l1 l2 : List Ent} {b : Ent} (hl : l = l1 ++ b :: l2) (h : barIdx l = barIdx l1 ++ [(l1.length : Int)]) : barE l = b := by
  unfold barE; rw [barAt_some h, if_pos (by omega), Int.toNat_natCast, parts_at hl]; rfl
section
variable {w0 : World} {g c d : Nat} {A B : Option Addr} {lim most : Int} {l : List Ent} {e : Ent}
theorem push_any {mx : Int} {l' : List Ent} (H : Own w0 (Pile g A c B d lim most l (barIdx l))) (hf : (l.length : Int) < lim) (hl : lim ≤ 65536) (hmx : (if ((l.length + 1 : Nat) : Int) > most then ((l.length + 1 : Nat) : Int) else most) = mx) (hl' : l ++ [e] = l') :
    Calls Try.prog 30 [.pointer (some ⟨g, 0, none⟩), .agg #[.bool e.bar, .int .i64 e.pc, .int .i64 e.pos, .int .i64 e.mark, .int .i64 e.org, .int .i64 e.val]].toArray w0
      (fun r w' => r = .returned (.bool true) ∧ ∃ A' c' B' d', St (fps (Pile g A c B d lim most l (barIdx l))) w0 w' (Pile g A' c' B' d' lim mx l' (barIdx l'))) := by
  subst hl'
  cases hb : e.bar with
  | true =>
    have := push_bar (e := e) H hf hl (barIdx_len l) hb hmx rfl (bars' := barIdx (l ++ [e])) (by rw [barIdx_snoc, hb]; rfl)
    exact this
  | false =>
    have h2 : barIdx (l ++ [e]) = barIdx l := by rw [barIdx_snoc, hb]; simp
    rw [h2]
    exact push_plain (e := e) H hf hl (barIdx_len l) hb hmx rfl
theorem top_any (H : HoldsAll w0 (Pile g A c B d lim most l (barIdx l))) (hl : l.length ≤ 140737488355328) :
    Calls Try.prog 32 [.pointer (some ⟨g, 0, none⟩)].toArray w0 (fun r w' => r = .returned (.tuple #[.agg #[.bool (lastE l).bar, .int .i64 (lastE l).pc, .int .i64 (lastE l).pos, .int .i64 (lastE l).mark, .int .i64 (lastE l).org, .int .i64 (lastE l).val], .bool (decide (0 < l.length))]) ∧ Bel w0 w') := by
  rcases Nat.eq_zero_or_pos l.length with h0 | h0
  · have : l = [] := List.eq_nil_of_length_eq_zero h0
    subst this
    exact top_none H rfl
  · rw [decide_eq_true h0]
    exact top_some H h0 hl (lastE_at h0)
theorem bar_any (H : HoldsAll w0 (Pile g A c B d lim most l (barIdx l))) (hl : l.length ≤ 140737488355328) :
    Calls Try.prog 34 [.pointer (some ⟨g, 0, none⟩)].toArray w0 (fun r w' => r = .returned (.tuple #[.agg #[.bool (barE l).bar, .int .i64 (barE l).pc, .int .i64 (barE l).pos, .int .i64 (barE l).mark, .int .i64 (barE l).org, .int .i64 (barE l).val], .bool (decide (0 ≤ barAt l))]) ∧ Bel w0 w') := by
  rcases bar_parts l with ⟨h1, _⟩ | ⟨l1, b, l2, h1, h2, h3, h4⟩
  · have ha := barAt_none h1
    rw [barE_none ha, ha]
    exact bar_none H (by rw [h1]; rfl)
  · rw [barE_some h1 h4, barAt_some h4, decide_eq_true (by omega)]
    exact bar_some H (barIdx_pos h4) (Nat.le_trans (barIdx_len l) hl) hl (barIdx_last h4) (parts_at h1)
theorem cut_any (H : Own w0 (Pile g A c B d lim most l (barIdx l))) (hl : l.length ≤ 140737488355328) :
    Calls Try.prog 31 [.pointer (some ⟨g, 0, none⟩)].toArray w0 (fun r w' => r = .returned (.tuple #[.agg #[.bool (barE l).bar, .int .i64 (barE l).pc, .int .i64 (barE l).pos, .int .i64 (barE l).mark, .int .i64 (barE l).org, .int .i64 (barE l).val], .bool (decide (0 ≤ barAt l))]) ∧ St (fps (Pile g A c B d lim most l (barIdx l))) w0 w' (Pile g A c B d lim most (cutL l) (barIdx (cutL l)))) := by
  rcases bar_parts l with ⟨h1, _⟩ | ⟨l1, b, l2, h1, h2, h3, h4⟩
  · have ha := barAt_none h1
    rw [barE_none ha, ha, cutL_none ha]
    exact cut_none H (by rw [h1]; rfl)
  · have e1 := parts_take h1
    have e2 := barIdx_cut h4
    have := cut_some H (barIdx_pos h4) (Nat.le_trans (barIdx_len l) hl) hl (barIdx_last h4) (parts_at h1)
    rw [e1, e2] at this
    rw [barE_some h1 h4, barAt_some h4, decide_eq_true (by omega), cutL_some h1 h4]
    exact this
theorem pop_any (H : Own w0 (Pile g A c B d lim most l (barIdx l))) (hl : l.length ≤ 140737488355328) :
    Calls Try.prog 45 [.pointer (some ⟨g, 0, none⟩)].toArray w0 (fun r w' => r = .returned (.tuple #[.agg #[.bool (lastE l).bar, .int .i64 (lastE l).pc, .int .i64 (lastE l).pos, .int .i64 (lastE l).mark, .int .i64 (lastE l).org, .int .i64 (lastE l).val], .bool (decide (0 < l.length))]) ∧ St (fps (Pile g A c B d lim most l (barIdx l))) w0 w' (Pile g A c B d lim most l.dropLast (barIdx l.dropLast))) := by
  rcases snoc_cases l with rfl | ⟨l', e, rfl⟩
  · exact pop_none H rfl
  · rw [decide_eq_true (by simp), lastE_snoc, List.dropLast_concat]
    have h0 : 0 < (l' ++ [e]).length := by simp
    obtain ⟨b, pc, pos, mark, org, val⟩ := e
    have he := lastE_at h0
    rw [lastE_snoc] at he
    cases b with
    | false =>
      have := pop_plain H h0 hl he
      rw [pop_take, pop_plain_bars rfl] at this
      rw [pop_plain_bars rfl]
      exact this
    | true =>
      have hb : 0 < (barIdx (l' ++ [Ent.mk true pc pos mark org val])).length := by rw [barIdx_snoc]; simp
      have := pop_bar H h0 hl hb (Nat.le_trans (barIdx_len _) hl) he
      rw [pop_take, pop_bars rfl] at this
      exact this
end
theorem mx_step {l : List Ent} {n : Nat} (h : l.length = n) : (if ((l.length + 1 : Nat) : Int) > (n : Int) then ((l.length + 1 : Nat) : Int) else (n : Int)) = ((n + 1 : Nat) : Int) := by
  rw [h, if_pos (by omega)]
theorem take_snoc {α : Type} {l : List α} {i : Nat} (h : i < l.length) : l.take i ++ [l[i]] = l.take (i + 1) := (List.take_succ_eq_append_getElem h).symm
end Go.Proofs.Ytlcglefbhlhcpaa.K
