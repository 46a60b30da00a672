/- A book of numbers: plain. -/
import Derived.Test.YtlcglefbhlhcpaaEvP
import Derived.Test.YtlcglefbhlhcpaaKv
namespace Go.Proofs.Ytlcglefbhlhcpaa.K
open Go.RowKit
set_option linter.unusedVariables false
/-- What a number was. -/
structure Note where
  (spot was : Int)
  deriving DecidableEq
def Note.cells (n : Note) : List Value := [.int .i64 n.spot, .int .i64 n.was]
def notes (l : List Note) : List Value := l.flatMap Note.cells
theorem notes_snoc (l : List Note) (n : Note) : notes l ++ n.cells = notes (l ++ [n]) := by simp [notes]
theorem notes_len (l : List Note) : (notes l).length = l.length * 2 := flat_len _ 2 (fun _ => rfl) l
theorem notes_take (l : List Note) (n : Nat) : (notes l).take (n * 2) = notes (l.take n) := flat_take _ 2 (fun _ => rfl) l n
/-- All as it was, the last first. -/
def back (l : List Note) (now : List Int) : List Int := l.foldr (fun n x => x.set n.spot.toNat n.was) now
theorem back_len (l : List Note) (now : List Int) : (back l now).length = now.length := by
  induction l with
  | nil => rfl
  | cons n l ih => simp [back] at ih ⊢; exact ih
theorem back_snoc (l : List Note) (n : Note) (now : List Int) : back (l ++ [n]) now = back l (now.set n.spot.toNat n.was) := by simp [back]
/-- A book in memory. -/
def Book (g : Nat) (A : Option Addr) (c : Nat) (B : Option Addr) (d : Nat) (now : List Int) (trail : List Note) : List Ck :=
  [.obj g 136 [.slice A now.length c, .slice B trail.length d], .row (.slice A now.length c) 3 1 now.length (ints now), .row (.slice B trail.length d) 138 2 trail.length (notes trail)]
/-- Each note is of a number that there is. -/
def Ranged (n : Nat) (trail : List Note) : Prop := ∀ x ∈ trail, 0 ≤ x.spot ∧ x.spot < (n : Int)
/-- A part of a list. -/
def partOf (now : List Int) (from_ to_ : Int) : List Int := (now.drop (max from_ 0).toNat).take ((min to_ (now.length : Int)).toNat - (max from_ 0).toNat)
theorem sub_addr (b o q sz c : Nat) (h : c ≠ q) : (if c = q then some (⟨b, o, none⟩ : Addr) else (some (⟨b, o, none⟩ : Addr)).map (·.add (q * sz))) = some ⟨b, o + q * sz, none⟩ := by
  rw [if_neg h, Option.map_some, add_at]
theorem ints_rep' (n : Nat) (x : Int) : ints (List.replicate n x) = List.replicate n (.int .i64 x) := by simp [ints]
/-- The doubling copy of Repeat. -/
theorem rep_step {xs : List Value} {v : Value} {m cnt : Nat} (h : xs.take m = List.replicate m v) (hc : cnt ≤ m) (hk : m + cnt ≤ xs.length) :
    (xs.take m ++ (xs.drop 0).take cnt ++ xs.drop (m + cnt)).take (m + cnt) = List.replicate (m + cnt) v := by
  have h1 : (xs.drop 0).take cnt = List.replicate cnt v := by
    rw [List.drop_zero]
    have : xs.take cnt = (xs.take m).take cnt := by rw [List.take_take, Nat.min_eq_left hc]
    rw [this, h, List.take_replicate, Nat.min_eq_left hc]
  rw [h1, h]
  have hl : (List.replicate m v ++ List.replicate cnt v).length = m + cnt := by simp
  rw [List.take_append_of_le_length (by rw [hl]; exact Nat.le_refl _), List.take_of_length_le (by rw [hl]; exact Nat.le_refl _), List.replicate_append_replicate]
/-- Nothing is a number behind a list's end. -/
theorem part_get {now : List Int} {from_ to_ : Int} {k : Nat} (hk : k < (partOf now from_ to_).length) : (partOf now from_ to_)[k]? = now[(max from_ 0).toNat + k]? := by
  unfold partOf at hk ⊢
  rw [List.length_take] at hk
  rw [List.getElem?_take, if_pos (by omega), List.getElem?_drop]
section
variable {P : Program} {ops : Array Oper} {Q : Exit → Act → World → Prop} {dfs : List Deferred} {N : Nat} {env : List (Nat × Value)} {a : Act} {w : World} {i d : Nat} {k : Kind} {r : List (Nat × Kind)}
variable {ty : TypeId} {pos : String} {af : Array Edge} {g : Option (Nat × Bool)}
theorem Run.subL {x l : Operand} {t e sz n c q : Nat} {A A' : Option Addr} {kd : IntKind} {m : Int} (hi : ops[i]? = some ⟨some d, .slice t x (some l) none none, ty, pos, af, g⟩) (E : EnvD dfs N env a) (hw : wnt ops env g = true) (hN : Nat.blt d N = true) (hx : ev env x = some (.slice A n c)) (hl : ev env l = some (.int kd m))
    (ht : P.underlying t = some (.slice e)) (hz : (P.info? e).map (·.size) = some sz) (hb : 0 ≤ m ∧ m ≤ (n : Int)) (hq : m.toNat = q) (hA : (if c = q then A else A.map (·.add (q * sz))) = A') (K : ∀ a', EnvD dfs N ((d, .slice A' (n - q) (c - q)) :: env) a' → Run P ops Q r a' w) : Run P ops Q ((i, k) :: r) a w := by
  subst hA
  exact Run.sliceL hi E hw hN hx hl ht hz hb hq K
theorem Run.subLH {x l h : Operand} {t e sz n c ql qh : Nat} {A A' : Option Addr} {kd kh : IntKind} {m m' : Int} (hi : ops[i]? = some ⟨some d, .slice t x (some l) (some h) none, ty, pos, af, g⟩) (E : EnvD dfs N env a) (hw : wnt ops env g = true) (hN : Nat.blt d N = true) (hx : ev env x = some (.slice A n c)) (hl : ev env l = some (.int kd m)) (hh : ev env h = some (.int kh m'))
    (ht : P.underlying t = some (.slice e)) (hz : (P.info? e).map (·.size) = some sz) (hb : 0 ≤ m ∧ m ≤ m' ∧ m' ≤ (c : Int)) (hql : m.toNat = ql) (hqh : m'.toNat = qh) (hA : (if c = ql then A else A.map (·.add (ql * sz))) = A') (K : ∀ a', EnvD dfs N ((d, .slice A' (qh - ql) (c - ql)) :: env) a' → Run P ops Q r a' w) : Run P ops Q ((i, k) :: r) a w := by
  subst hA
  exact Run.sliceLH hi E hw hN hx hl hh ht hz hb hql hqh K
end
end Go.Proofs.Ytlcglefbhlhcpaa.K
