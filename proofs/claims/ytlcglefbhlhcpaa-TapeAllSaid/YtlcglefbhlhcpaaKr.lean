/- What comes in: a slice of things that are read cell by cell. -/
import Derived.Test.YtlcglefbhlhcpaaKh
import Derived.ChangeSlices
import Derived.SizedLaws
import Derived.Deep.Slices
import Derived.ChangeOld
import Derived.OpenShut
namespace Go.Proofs.Ytlcglefbhlhcpaa.K
open Go.RowKit Go.ChangeShapes Go.WideShapes Go.Deep
set_option linter.unusedVariables false
set_option maxRecDepth 100000
section
variable {H : Type} {enc : TypeId × Value → H} {w : World} {base : Nat} {spare : Nat → Bool} {held : Bool}
theorem list_of_all {α : Type} {p : Nat → α → Prop} : ∀ n : Nat, (∀ i, i < n → ∃ x, p i x) → ∃ l : List α, l.length = n ∧ ∀ i (h : i < l.length), p i (l[i])
  | 0, _ => ⟨[], rfl, fun i h => absurd h (Nat.not_lt_zero i)⟩
  | n + 1, h => by
    obtain ⟨l, hl, hp⟩ := list_of_all n (fun i hi => h i (by omega))
    obtain ⟨x, hx⟩ := h n (by omega)
    refine ⟨l ++ [x], by simp [hl], fun i hi => ?_⟩
    rcases Nat.lt_or_ge i l.length with h1 | h1
    · rw [List.getElem_append_left h1]; exact hp i h1
    · have : i = n := by simp at hi; omega
      subst this
      rw [List.getElem_append_right h1]; simpa using hx
theorem addr_add_add (a : Addr) (m n : Nat) (hs : a.spot = none) : (a.add m).add n = ⟨a.block, a.off + m + n, none⟩ := by
  obtain ⟨b, o, s⟩ := a
  simp only at hs
  subst hs
  rw [add_at, add_at]
theorem mem_weightsAll {e : TypeId} {l : List (DataW H)} {x : DataW H} (hx : x ∈ l) {n : Nat} (hn : n ∈ x.weights Try.prog e) : n ∈ DataW.weightsAll Try.prog e l := by
  induction l with
  | nil => cases hx
  | cons y l ih =>
    simp only [DataW.weightsAll, List.mem_append]
    rcases List.mem_cons.1 hx with rfl | h
    · exact .inl hn
    · exact .inr (ih h)
/-- A slice that came in: its elements y, each in k cells, each with what R says of it. -/
theorem rd_slice {α : Type} (f : α → List Value) (R : α → Prop) {t e k B : Nat} {cs0 : List Value} {fuel0 : Nat} {x0 : DataW H × List MemPlace} (ht : Try.prog.underlying t = some (.slice e)) (hC : Try.prog.cellsOf e = k) (hB : Try.prog.bytesOf e = B) (hk0 : 0 < k) (hf : ∀ y, (f y).length = k)
    (hel : ∀ (fuel : Nat) (cs : List Value) (x : DataW H × List MemPlace), cs.length = k → DataW.trod enc Try.prog w base spare held fuel e cs = some x → (∀ n ∈ x.1.weights Try.prog e, n ≤ reachBytes) → ∃ y, cs = f y ∧ R y)
    (hh : DataW.trod enc Try.prog w base spare held fuel0 t cs0 = some x0) (hw : ∀ n ∈ x0.1.weights Try.prog t, n ≤ reachBytes) :
    ∃ (A : Option Addr) (c : Nat) (l : List α), cs0 = [.slice A l.length c] ∧ Rd w A l.length k (l.flatMap f) ∧ (∀ y ∈ l, R y) ∧ l.length ≤ c ∧ c ≤ maxLen ∧ l.length * B ≤ reachBytes := by
  rcases open_slice ht hh with ⟨hcs, _⟩ | ⟨a, n, c, m, n', D, Pl, hcs, hb, hl, hm, hmm, hx, hi⟩
  · exact ⟨none, 0, [], hcs, Rd.nil _ _ _, fun y hy => (by cases hy), Nat.le_refl _, Nat.zero_le _, by simp⟩
  · have hlm : n ≤ m := by rw [hmm]; split <;> omega
    rw [hx] at hw
    simp only [DataW.weights, ht, List.mem_cons, List.mem_append] at hw
    have hw1 := hw _ (.inl rfl)
    obtain ⟨l, hll, hp⟩ := list_of_all (p := fun i y => (∀ j v, (f y)[j]? = some v → w.cell? ((a.add (i * k)).add j) = some v) ∧ R y) n (fun i hin => by
      obtain ⟨cs', h1, h2⟩ := hi i (by omega)
      rw [hC] at h1
      obtain ⟨_, hlen, hc⟩ := World.cells?_some h1
      obtain ⟨y, hy, hR⟩ := hel _ _ _ hlen h2 (fun q hq => hw q (.inr (.inl (mem_weightsAll (List.mem_map.2 ⟨i, List.mem_range.2 hin, rfl⟩) hq))))
      subst hy
      exact ⟨y, fun j v hj => (hc j (by have := (List.getElem?_eq_some_iff.1 hj).1; rw [hf] at this; exact this)).trans hj, hR⟩)
    subst hll
    refine ⟨some a, c, l, hcs, ⟨flat_len f k hf l, fun h0 => ?_⟩, fun y hy => ?_, hl, hm, ?_⟩
    · have h00 := (hp 0 h0).1 0 _ (List.getElem?_eq_getElem (by rw [hf]; exact hk0))
      have hs : a.spot = none := by
        rw [Nat.zero_mul] at h00
        have e1 : (a.add 0).add 0 = a := rfl
        rw [e1] at h00
        unfold World.cell? at h00
        split at h00
        · cases hsp : a.spot with
          | none => rfl
          | some q => simp [hsp] at h00
        · cases h00
      refine ⟨a.block, a.off, by obtain ⟨b, o, s⟩ := a; simp only at hs; rw [hs], fun j v hj => ?_⟩
      have hjl := (List.getElem?_eq_some_iff.1 hj).1
      rw [flat_len f k hf] at hjl
      have hdiv : j / k < l.length := Nat.div_lt_of_lt_mul (by rw [Nat.mul_comm]; exact hjl)
      have hmod : j % k < k := Nat.mod_lt _ hk0
      have hje : j = j / k * k + j % k := by rw [Nat.mul_comm]; exact (Nat.div_add_mod j k).symm
      rw [hje, flat_get f k hf l _ _ hdiv hmod] at hj
      have := (hp (j / k) hdiv).1 _ _ hj
      rw [addr_add_add a _ _ hs] at this
      rw [hje, ← Nat.add_assoc]
      exact this
    · obtain ⟨i, hi', rfl⟩ := List.getElem_of_mem hy
      exact (hp i hi').2
    · rw [hB] at hw1
      refine Nat.le_trans (Nat.mul_le_mul_right _ ?_) hw1
      simp
/-- As an argument. -/
theorem arg_slice {α : Type} (f : α → List Value) (R : α → Prop) {t e k B : Nat} {v : Value} {d : DataW H} {p : List MemPlace} (ht : Try.prog.underlying t = some (.slice e)) (hC : Try.prog.cellsOf e = k) (hB : Try.prog.bytesOf e = B) (hk0 : 0 < k) (hf : ∀ y, (f y).length = k)
    (hel : ∀ (fuel : Nat) (cs : List Value) (x : DataW H × List MemPlace), cs.length = k → DataW.trod enc Try.prog w base spare held fuel e cs = some x → (∀ n ∈ x.1.weights Try.prog e, n ≤ reachBytes) → ∃ y, cs = f y ∧ R y)
    {r : Reach} {b0 : Nat} (hv : Value.okWide Try.prog w r b0 t v) (h : DataW.Trod enc Try.prog w base spare held t v d p) (hw : ∀ n ∈ d.weights Try.prog t, n ≤ reachBytes) :
    ∃ (A : Option Addr) (c : Nat) (l : List α), v = .slice A l.length c ∧ Rd w A l.length k (l.flatMap f) ∧ (∀ y ∈ l, R y) ∧ l.length ≤ c ∧ c ≤ maxLen ∧ l.length * B ≤ reachBytes := by
  obtain ⟨A0, n0, c0, rfl⟩ := okWide_slice ht hv
  obtain ⟨fuel, hh⟩ := h
  obtain ⟨A, c, l, h1, h2⟩ := rd_slice f R ht hC hB hk0 hf hel hh hw
  have : Value.slice A0 n0 c0 = .slice A l.length c := by simpa [Value.cells] using h1
  exact ⟨A, c, l, this, h2⟩
theorem of_one {cs : List Value} {v : Value} {o : Nat} (h : (cs.drop o).take 1 = [v]) : cs[o]? = some v := by
  have : ((cs.drop o).take 1)[0]? = some v := by rw [h]; rfl
  simpa [List.getElem?_take, List.getElem?_drop] using this
theorem read_int {t : Nat} {k : IntKind} {fuel : Nat} {cs : List Value} {o : Nat} {y : DataW H × List MemPlace} (hu : Try.prog.underlying t = some (.int k)) (hc : Try.prog.cellsOf t = 1) (h : DataW.trod enc Try.prog w base spare held fuel t ((cs.drop o).take (Try.prog.cellsOf t)) = some y) :
    ∃ n, cs[o]? = some (.int k n) ∧ (Lit.int k n).wf = true := by
  rw [hc] at h
  obtain ⟨n, h1, _, h2⟩ := DataW.trod_int hu h
  exact ⟨n, of_one h1, h2⟩
theorem read_bool {t : Nat} {fuel : Nat} {cs : List Value} {o : Nat} {y : DataW H × List MemPlace} (hu : Try.prog.underlying t = some .bool) (hc : Try.prog.cellsOf t = 1) (h : DataW.trod enc Try.prog w base spare held fuel t ((cs.drop o).take (Try.prog.cellsOf t)) = some y) :
    ∃ b, cs[o]? = some (.bool b) := by
  rw [hc] at h
  obtain ⟨b, h1, _⟩ := DataW.trod_bool hu h
  exact ⟨b, of_one h1⟩
theorem len6 {cs : List Value} {a b c d e f : Value} (hl : cs.length = 6) (h0 : cs[0]? = some a) (h1 : cs[1]? = some b) (h2 : cs[2]? = some c) (h3 : cs[3]? = some d) (h4 : cs[4]? = some e) (h5 : cs[5]? = some f) : cs = [a, b, c, d, e, f] := by
  match cs, hl with
  | [x0, x1, x2, x3, x4, x5], _ => simp at h0 h1 h2 h3 h4 h5; simp [*]
theorem c3 : Try.prog.cellsOf 3 = 1 := by kernel_rfl
theorem c4 : Try.prog.cellsOf 4 = 1 := by kernel_rfl
/-- An entry that came in. -/
theorem read_ent (fuel : Nat) (cs : List Value) (x : DataW H × List MemPlace) (hl : cs.length = 6) (h : DataW.trod enc Try.prog w base spare held fuel 43 cs = some x) (_ : ∀ n ∈ x.1.weights Try.prog 43, n ≤ reachBytes) : ∃ e : Ent, cs = e.cells ∧ True := by
  obtain ⟨xs, n, _, _, _, hxl, hf⟩ := DataW.trod_struct Try.underlying43 h
  have get : ∀ i, i < 6 → ∃ y, xs[i]? = some y := fun i hi => ⟨_, List.getElem?_eq_getElem (by rw [hxl]; exact hi)⟩
  obtain ⟨y0, q0⟩ := get 0 (by decide); obtain ⟨y1, q1⟩ := get 1 (by decide); obtain ⟨y2, q2⟩ := get 2 (by decide); obtain ⟨y3, q3⟩ := get 3 (by decide); obtain ⟨y4, q4⟩ := get 4 (by decide); obtain ⟨y5, q5⟩ := get 5 (by decide)
  obtain ⟨b, r0⟩ := read_bool Try.underlying4 c4 ((hf 0 _ rfl).trans q0)
  obtain ⟨n1, r1, _⟩ := read_int Try.underlying3 c3 ((hf 1 _ rfl).trans q1)
  obtain ⟨n2, r2, _⟩ := read_int Try.underlying3 c3 ((hf 2 _ rfl).trans q2)
  obtain ⟨n3, r3, _⟩ := read_int Try.underlying3 c3 ((hf 3 _ rfl).trans q3)
  obtain ⟨n4, r4, _⟩ := read_int Try.underlying3 c3 ((hf 4 _ rfl).trans q4)
  obtain ⟨n5, r5, _⟩ := read_int Try.underlying3 c3 ((hf 5 _ rfl).trans q5)
  exact ⟨⟨b, n1, n2, n3, n4, n5⟩, len6 hl r0 r1 r2 r3 r4 r5, trivial⟩
end
end Go.Proofs.Ytlcglefbhlhcpaa.K
