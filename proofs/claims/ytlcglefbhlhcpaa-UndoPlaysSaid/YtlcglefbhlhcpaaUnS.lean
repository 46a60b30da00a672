/- All that the numbers of a book ever were: plain. -/
import Derived.Test.YtlcglefbhlhcpaaUnL
import Derived.Test.YtlcglefbhlhcpaaKw
namespace Go.Proofs.Ytlcglefbhlhcpaa.K
open Go.RowKit
set_option linter.unusedVariables false
def hdrs (H : List IRow) : List Value := H.map IRow.hdr
theorem hdrs_len (H : List IRow) : (hdrs H).length = H.length := by simp [hdrs]
theorem hdrs_get {H : List IRow} {i : Nat} {q : IRow} (h : H[i]? = some q) : (hdrs H)[i]? = some (.slice q.A q.xs.length q.c) := by simp [hdrs, h, IRow.hdr]
theorem hdrs_snoc (H : List IRow) (q : IRow) : hdrs H ++ [.slice q.A q.xs.length q.c] = hdrs (H ++ [q]) := by simp [hdrs, IRow.hdr]
theorem hdrs_take (H : List IRow) (n : Nat) : (hdrs H).take (n * 1) = hdrs (H.take n) := by simp [hdrs]
theorem hdrs_one (H : List IRow) : ∀ u ∈ hdrs H, u.oneCell' = true := by
  intro u hu
  simp only [hdrs, List.mem_map] at hu
  obtain ⟨q, _, rfl⟩ := hu
  rfl
theorem back_append (l m : List Note) (now : List Int) : back (l ++ m) now = back l (back m now) := by simp [back]
/-- H is what the numbers ever were. -/
def Hist (H : List IRow) (now : List Int) (trail : List Note) : Prop := H.length = trail.length + 1 ∧ ∀ (j : Nat) (q : IRow), H[j]? = some q → q.xs = back (trail.drop j) now
theorem Hist.last {H : List IRow} {now : List Int} {trail : List Note} (h : Hist H now trail) : ∃ q, H[H.length - 1]? = some q ∧ q ∈ H ∧ q.xs = now := by
  have hl := h.1
  have hlt : H.length - 1 < H.length := by omega
  have h1 := List.getElem?_eq_getElem hlt
  refine ⟨_, h1, List.getElem_mem _, ?_⟩
  rw [h.2 _ _ h1, List.drop_of_length_le (by omega)]
  rfl
theorem Hist.set {H : List IRow} {now : List Int} {trail : List Note} {i x : Int} (h : Hist H now trail) (hc : 0 ≤ i ∧ i < (now.length : Int) ∧ now[i.toNat]? ≠ some x) {q : IRow} (hq : q.xs = setN now i x) : Hist (H ++ [q]) (setN now i x) (setT now trail i x) := by
  have hT : (setT now trail i x).length = trail.length + 1 := by unfold setT; rw [if_pos hc]; simp
  refine ⟨by rw [hT, List.length_append, h.1]; rfl, fun j p hp => ?_⟩
  by_cases hj : j < H.length
  · rw [List.getElem?_append_left hj] at hp
    rw [setT_back (by have := h.1; omega) rfl]
    exact h.2 j p hp
  · have hj2 : j = H.length := by have := (List.getElem?_eq_some_iff.1 hp).1; simp at this; omega
    subst hj2
    rw [List.getElem?_append_right (Nat.le_refl _)] at hp
    simp at hp
    subst hp
    rw [hq, List.drop_of_length_le (by rw [hT, h.1]; exact Nat.le_refl _)]
    rfl
theorem Hist.set_same {H : List IRow} {now : List Int} {trail : List Note} {i x : Int} (h : Hist H now trail) (hc : ¬ (0 ≤ i ∧ i < (now.length : Int) ∧ now[i.toNat]? ≠ some x)) : Hist H (setN now i x) (setT now trail i x) := by
  have e1 : setT now trail i x = trail := by unfold setT; rw [if_neg hc]
  have e2 : setN now i x = now := by
    unfold setN
    split
    · rename_i hi
      have hx : now[i.toNat]? = some x := Decidable.of_not_not (fun hn => hc ⟨hi.1, hi.2, hn⟩)
      obtain ⟨hlt, he⟩ := List.getElem?_eq_some_iff.1 hx
      rw [← he]
      exact List.set_getElem_self hlt
    · rfl
  rw [e1, e2]; exact h
/-- The numbers, and the trail, behind Undo. -/
def unN (now : List Int) (trail : List Note) (m : Int) : List Int := if 0 ≤ m ∧ m ≤ (trail.length : Int) then back (trail.drop m.toNat) now else now
def unT (trail : List Note) (m : Int) : List Note := if 0 ≤ m ∧ m ≤ (trail.length : Int) then trail.take m.toNat else trail
def unH (H : List IRow) (m : Int) : List IRow := if 0 ≤ m ∧ m < (H.length : Int) then H.take (m.toNat + 1) else H
theorem unN_len (now : List Int) (trail : List Note) (m : Int) : (unN now trail m).length = now.length := by unfold unN; split <;> simp [back_len]
theorem unT_len (trail : List Note) (m : Int) : (unT trail m).length ≤ trail.length := by unfold unT; split <;> simp; omega
theorem unT_ranged {n : Nat} {trail : List Note} {m : Int} (h : Ranged n trail) : Ranged n (unT trail m) := by
  unfold unT; split
  · exact fun x hx => h x (List.mem_of_mem_take hx)
  · exact h
theorem Hist.undo {H : List IRow} {now : List Int} {trail : List Note} (h : Hist H now trail) (m : Int) : Hist (unH H m) (unN now trail m) (unT trail m) := by
  have hl := h.1
  unfold unH unN unT
  by_cases hc : 0 ≤ m ∧ m ≤ (trail.length : Int)
  · rw [if_pos hc, if_pos hc, if_pos (by omega)]
    refine ⟨by simp; omega, fun j q hq => ?_⟩
    have hj := (List.getElem?_eq_some_iff.1 hq).1
    rw [List.getElem?_take, if_pos (by simp at hj; omega)] at hq
    rw [h.2 j q hq, ← back_append]
    congr 1
    have hjm : j ≤ m.toNat := by simp at hj; omega
    conv => lhs; rw [← List.take_append_drop m.toNat trail]
    rw [List.drop_append_of_le_length (by simp; omega)]
  · rw [if_neg hc, if_neg hc, if_neg (by omega)]; exact h
section
variable {w0 : World} {g c d : Nat} {A B : Option Addr} {now : List Int} {trail : List Note}
theorem un_undo_any {m : Int} (H : Own w0 (Book g A c B d now trail)) (hl : now.length ≤ 65536) (hm : trail.length ≤ 65536) (hr : Ranged now.length trail) : Calls Try.prog 53 [.pointer (some ⟨g, 0, none⟩), .int .i64 m].toArray w0 (fun r w' => r = .returned (.bool (decide (0 ≤ m ∧ m ≤ (trail.length : Int)))) ∧ St (fps (Book g A c B d now trail)) w0 w' (Book g A c B d (unN now trail m) (unT trail m))) := by
  rcases Int.lt_or_le m 0 with h | h0
  · refine (un_undo_low H h).mono ?_
    rintro r w' ⟨rfl, S⟩
    unfold unN unT
    rw [if_neg (by omega), if_neg (by omega)]
    exact ⟨by rw [decide_eq_false (by omega)], S⟩
  · rcases Int.lt_or_le (trail.length : Int) m with h1 | h1
    · refine (un_undo_high H h0 h1).mono ?_
      rintro r w' ⟨rfl, S⟩
      unfold unN unT
      rw [if_neg (by omega), if_neg (by omega)]
      exact ⟨by rw [decide_eq_false (by omega)], S⟩
    · obtain ⟨k, rfl⟩ : ∃ k : Nat, m = (k : Int) := ⟨m.toNat, by omega⟩
      refine (un_undo H (by omega) hm hl hr).mono ?_
      rintro r w' ⟨rfl, S⟩
      unfold unN unT
      rw [if_pos ⟨h0, h1⟩, if_pos ⟨h0, h1⟩, Int.toNat_natCast]
      exact ⟨by rw [decide_eq_true ⟨h0, h1⟩], S⟩
theorem same15_eq {A B : Option Addr} {c d : Nat} {l m : List Int} (H1 : Rd w0 A l.length 1 (ints l)) (H2 : Rd w0 B m.length 1 (ints m)) (hl : l.length ≤ 140737488355328) (e : l = m) : Calls Try.prog 54 [.slice A l.length c, .slice B m.length d].toArray w0 (fun r w' => r = .returned (.bool true) ∧ Bel w0 w') := by
  subst e
  exact same15_self H1 H2 hl
end
end Go.Proofs.Ytlcglefbhlhcpaa.K
