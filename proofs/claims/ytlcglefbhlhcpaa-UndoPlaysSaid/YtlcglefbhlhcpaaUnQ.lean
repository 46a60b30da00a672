/- A book undone: plain, and memory between two rounds. -/
import Derived.Test.YtlcglefbhlhcpaaUnA
import Derived.Test.YtlcglefbhlhcpaaKu
import Derived.Sort.LoopGhostIn
namespace Go.Proofs.Ytlcglefbhlhcpaa.K
open Go.RowKit
set_option linter.unusedVariables false
/-- Numbers behind some rounds. -/
def fw (pre : List Note) (now : List Int) : List Int := pre.foldl (fun l n => l.set n.spot.toNat n.was) now
theorem fw_len (pre : List Note) : ∀ now : List Int, (fw pre now).length = now.length := by
  induction pre with
  | nil => intro now; rfl
  | cons n l ih => intro now; show (fw l _).length = _; rw [ih]; simp
theorem fw_snoc (pre : List Note) (n : Note) (now : List Int) : fw (pre ++ [n]) now = (fw pre now).set n.spot.toNat n.was := by simp [fw]
theorem fw_rev (l : List Note) (now : List Int) : fw l.reverse now = back l now := by simp [fw, back]
theorem back_at {l : List Note} {k : Nat} (h : k < l.length) : l.reverse.take (l.length - (k + 1)) ++ [l[k]] = l.reverse.take (l.length - k) := by
  have e : l.length - k = (l.length - (k + 1)) + 1 := by omega
  rw [e, List.take_succ_eq_append_getElem (by simp; omega)]
  congr 2
  rw [List.getElem_reverse]
  congr 1
  omega
theorem roObjF {F : List Nat} {w0 w : World} {hp : List Ck} {b : Nat} {ty : TypeId} {cs : List Value} {fr : Nat × Nat} {j : Nat} {v : Value} (h : w0.heap[b]? = some (.cells cs.toArray ty fr)) (hb : b ∉ F) (s : St F w0 w hp) (hj : cs[j]? = some v) : w.cell? ⟨b, j, none⟩ = some v := by
  have hlt := (Array.getElem?_eq_some_iff.1 h).1
  have h2 := (s.chg.block b hlt hb).trans h
  rw [cell_of_row w b j _ ty fr h2]
  simpa using hj
theorem roCellF {F : List Nat} {w0 w : World} {hp : List Ck} {p : Addr} {v : Value} (h : w0.cell? p = some v) (hb : p.block ∉ F) (s : St F w0 w hp) : w.cell? p = some v := s.chg.cell hb h
theorem cell_turn {w w' : World} {p : Addr} {v : Value} {row : Option Nat} (h : w.cell? p = some v) (hg : w.grownBy w' row) (hr : ∀ r, row = some r → ∃ o : Obj, w.heap[r]? = some o ∧ o.isCells = false) : w'.cell? p = some v := cell_kept h hg hr
/-- A part of a row of notes is read. -/
theorem rd_drop {w : World} {A A' : Option Addr} {n k sz : Nat} {xs : List Value} {c : Nat} (h : Rd w A n sz xs) (hk : k ≤ n) (hn : n ≤ c) (hA : (if c = k then A else A.map (·.add (k * sz))) = A') : Rd w A' (n - k) sz (xs.drop (k * sz)) := by
  refine ⟨by rw [List.length_drop, h.1, Nat.sub_mul], fun h0 => ?_⟩
  obtain ⟨b, o, rfl, hc⟩ := h.2 (by omega)
  rw [if_neg (by omega), Option.map_some, add_at] at hA
  refine ⟨b, o + k * sz, hA.symm, fun j v hj => ?_⟩
  rw [Nat.add_assoc]
  refine hc _ _ ?_
  rw [List.getElem?_drop] at hj
  exact hj
theorem notes_drop (l : List Note) (k : Nat) : (notes l).drop (k * 2) = notes (l.drop k) := by
  induction l generalizing k with
  | nil => simp [notes]
  | cons n l ih =>
    cases k with
    | zero => simp
    | succ k =>
      rw [List.drop_succ_cons, ← ih]
      have e : (k + 1) * 2 = n.cells.length + k * 2 := by show _ = 2 + k * 2; omega
      rw [show notes (n :: l) = n.cells ++ notes l from List.flatMap_cons, e, List.drop_append]
      simp
theorem fps_cons (c : Ck) (l : List Ck) : fps (c :: l) = c.fp ++ fps l := by simp [fps]
end Go.Proofs.Ytlcglefbhlhcpaa.K
