/- A book's laws: plain. -/
import Derived.Test.YtlcglefbhlhcpaaUnB
namespace Go.Proofs.Ytlcglefbhlhcpaa.K
open Go.RowKit
set_option linter.unusedVariables false
/-- The numbers behind Set, and the trail. -/
def setN (now : List Int) (i x : Int) : List Int := if 0 ≤ i ∧ i < (now.length : Int) then now.set i.toNat x else now
def setT (now : List Int) (trail : List Note) (i x : Int) : List Note := if 0 ≤ i ∧ i < (now.length : Int) ∧ now[i.toNat]? ≠ some x then trail ++ [⟨i, (now[i.toNat]?).getD 0⟩] else trail
theorem setN_len (now : List Int) (i x : Int) : (setN now i x).length = now.length := by unfold setN; split <;> simp
theorem setT_len (now : List Int) (trail : List Note) (i x : Int) : (setT now trail i x).length ≤ trail.length + 1 := by unfold setT; split <;> simp
theorem setT_ge (now : List Int) (trail : List Note) (i x : Int) : trail.length ≤ (setT now trail i x).length := by unfold setT; split <;> simp
theorem setT_ranged {n : Nat} {now : List Int} {trail : List Note} {i x : Int} (h : Ranged n trail) (hn : now.length = n) : Ranged n (setT now trail i x) := by
  unfold setT
  split
  · rename_i hc
    intro y hy
    rcases List.mem_append.1 hy with hy | hy
    · exact h y hy
    · rw [List.mem_singleton.1 hy]; exact ⟨hc.1, by rw [← hn]; exact hc.2.1⟩
  · exact h
theorem setT_back {now was : List Int} {trail : List Note} {i x : Int} {m : Nat} (hm : m ≤ trail.length) (h : back (trail.drop m) now = was) : back ((setT now trail i x).drop m) (setN now i x) = was := by
  unfold setT setN
  by_cases h1 : 0 ≤ i ∧ i < (now.length : Int)
  · rw [if_pos h1]
    have hlt : i.toNat < now.length := by omega
    by_cases h2 : now[i.toNat]? = some x
    · rw [if_neg (fun h => h.2.2 h2)]
      have : now.set i.toNat x = now := by
        apply List.ext_getElem?
        intro j
        rw [List.getElem?_set]
        split
        · rename_i e; subst e; exact h2.symm
        · rfl
      rw [this]; exact h
    · rw [if_pos ⟨h1.1, h1.2, h2⟩, List.drop_append_of_le_length hm, back_snoc]
      have : (now.set i.toNat x).set i.toNat ((now[i.toNat]?).getD 0) = now := by
        rw [List.set_set, List.getElem?_eq_getElem hlt, Option.getD_some]
        exact List.set_getElem_self hlt
      rw [this]; exact h
  · rw [if_neg h1, if_neg (fun h => h1 ⟨h.1, h.2.1⟩)]; exact h
theorem part_all {now : List Int} {n : Nat} (h : now.length = n) : partOf now 0 (n : Int) = now := by
  unfold partOf
  simp [h]
  exact List.take_of_length_le (by omega)
theorem part_len {now : List Int} {n : Nat} (h : now.length = n) (from_ to_ : Int) : ((partOf now from_ to_).length : Int) = max 0 (min to_ (n : Int) - max from_ 0) := by
  unfold partOf
  simp only [List.length_take, List.length_drop, h]
  omega
section
variable {w0 : World} {g c d : Nat} {A B : Option Addr} {now : List Int} {trail : List Note}
theorem un_set_any {i x : Int} (H : Own w0 (Book g A c B d now trail)) (hl : now.length ≤ 65536) (hm : trail.length ≤ 65536) : Calls Try.prog 50 [.pointer (some ⟨g, 0, none⟩), .int .i64 i, .int .i64 x].toArray w0 (fun r w' => ∃ b B' d', r = .returned (.bool b) ∧ b = decide (0 ≤ i ∧ i < (now.length : Int)) ∧ St (fps (Book g A c B d now trail)) w0 w' (Book g A c B' d' (setN now i x) (setT now trail i x))) := by
  rcases Int.lt_or_le i 0 with h | h0
  · refine (un_set_low H h).mono ?_
    rintro r w' ⟨rfl, S⟩
    refine ⟨false, B, d, rfl, (decide_eq_false (by omega)).symm, ?_⟩
    unfold setN setT
    rw [if_neg (by omega), if_neg (fun h => by omega)]; exact S
  · rcases Int.lt_or_le i (now.length : Int) with h1 | h1
    · obtain ⟨k, rfl⟩ : ∃ k : Nat, i = (k : Int) := ⟨i.toNat, by omega⟩
      have hk : k < now.length := by omega
      have hy := List.getElem?_eq_getElem hk
      by_cases e : now[k] = x
      · refine (un_set_same H hy (by omega) e).mono ?_
        rintro r w' ⟨rfl, S⟩
        refine ⟨true, B, d, rfl, (decide_eq_true ⟨h0, h1⟩).symm, ?_⟩
        have e1 : setN now (k : Int) x = now := by
          unfold setN
          rw [if_pos ⟨h0, h1⟩, Int.toNat_natCast, ← e]
          exact List.set_getElem_self hk
        have e2 : setT now trail (k : Int) x = trail := by
          unfold setT
          rw [if_neg (fun h => h.2.2 (by rw [Int.toNat_natCast, hy, e]))]
        rw [e1, e2]; exact S
      · refine (un_set H hy (by omega) hm e).mono ?_
        rintro r w' ⟨rfl, B', d', S⟩
        refine ⟨true, B', d', rfl, (decide_eq_true ⟨h0, h1⟩).symm, ?_⟩
        have e1 : setN now (k : Int) x = now.set k x := by unfold setN; rw [if_pos ⟨h0, h1⟩, Int.toNat_natCast]
        have e2 : setT now trail (k : Int) x = trail ++ [⟨(k : Int), now[k]⟩] := by
          unfold setT
          rw [if_pos ⟨h0, h1, by rw [Int.toNat_natCast, hy]; simpa using e⟩, Int.toNat_natCast, hy]; rfl
        rw [e1, e2]; exact S
    · refine (un_set_high H h0 h1).mono ?_
      rintro r w' ⟨rfl, S⟩
      refine ⟨false, B, d, rfl, (decide_eq_false (by omega)).symm, ?_⟩
      unfold setN setT
      rw [if_neg (by omega), if_neg (fun h => by omega)]; exact S
end
end Go.Proofs.Ytlcglefbhlhcpaa.K
