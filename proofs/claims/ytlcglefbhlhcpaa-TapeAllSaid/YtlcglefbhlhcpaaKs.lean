/- States that come in. -/
import Derived.Test.YtlcglefbhlhcpaaKr
import Derived.Test.YtlcglefbhlhcpaaEvP
import Derived.Lib.SmallJoins
namespace Go.Proofs.Ytlcglefbhlhcpaa.K
open Go.RowKit Go.ChangeShapes Go.WideShapes Go.Deep Go.Joins
set_option linter.unusedVariables false
set_option maxRecDepth 100000
/-- A state where it lies: its places are elsewhere. -/
structure StaM where
  (s : Sta) (A : Option Addr) (c : Nat)
def StaM.cells (x : StaM) : List Value := [.int .i64 x.s.kind, .int .i64 x.s.node, .int .i64 x.s.phase, .int .i64 x.s.pos, .int .i64 x.s.start, .int .i64 x.s.depth, .int .i64 x.s.org, .slice x.A x.s.caps.length x.c]
theorem StaM.len (x : StaM) : x.cells.length = 8 := rfl
def StaM.ok (w : World) (x : StaM) : Prop := Rd w x.A x.s.caps.length 1 (ints x.s.caps) ∧ x.s.caps.length * 8 ≤ reachBytes
def i64s (n : Int) : List Value := [.int .i64 n]
theorem flat_i64s (l : List Int) : l.flatMap i64s = ints l := by
  induction l with
  | nil => rfl
  | cons x l ih => rw [List.flatMap_cons, ih]; rfl
section
variable {H : Type} {enc : TypeId × Value → H} {w : World} {base : Nat} {spare : Nat → Bool} {held : Bool}
theorem read_i64 (fuel : Nat) (cs : List Value) (x : DataW H × List MemPlace) (hl : cs.length = 1) (h : DataW.trod enc Try.prog w base spare held fuel 3 cs = some x) (_ : ∀ n ∈ x.1.weights Try.prog 3, n ≤ reachBytes) : ∃ n : Int, cs = i64s n ∧ True := by
  obtain ⟨n, h1, _, _⟩ := DataW.trod_int Try.underlying3 h
  exact ⟨n, h1, trivial⟩
theorem len8 {cs : List Value} {a b c d e f g k : Value} (hl : cs.length = 8) (h0 : cs[0]? = some a) (h1 : cs[1]? = some b) (h2 : cs[2]? = some c) (h3 : cs[3]? = some d) (h4 : cs[4]? = some e) (h5 : cs[5]? = some f) (h6 : cs[6]? = some g) (h7 : cs[7]? = some k) : cs = [a, b, c, d, e, f, g, k] := by
  match cs, hl with
  | [x0, x1, x2, x3, x4, x5, x6, x7], _ => simp at h0 h1 h2 h3 h4 h5 h6 h7; simp [*]
theorem read_sta (fuel : Nat) (cs : List Value) (x : DataW H × List MemPlace) (hl : cs.length = 8) (h : DataW.trod enc Try.prog w base spare held fuel 34 cs = some x) (hw : ∀ n ∈ x.1.weights Try.prog 34, n ≤ reachBytes) : ∃ y : StaM, cs = y.cells ∧ y.ok w := by
  obtain ⟨xs, n, _, hx, _, hxl, hf⟩ := DataW.trod_struct Try.underlying34 h
  have get : ∀ i, i < 8 → ∃ y, xs[i]? = some y := fun i hi => ⟨_, List.getElem?_eq_getElem (by rw [hxl]; exact hi)⟩
  obtain ⟨y0, q0⟩ := get 0 (by decide)
  obtain ⟨y1, q1⟩ := get 1 (by decide)
  obtain ⟨y2, q2⟩ := get 2 (by decide)
  obtain ⟨y3, q3⟩ := get 3 (by decide)
  obtain ⟨y4, q4⟩ := get 4 (by decide)
  obtain ⟨y5, q5⟩ := get 5 (by decide)
  obtain ⟨y6, q6⟩ := get 6 (by decide)
  obtain ⟨y7, q7⟩ := get 7 (by decide)
  obtain ⟨n0, r0, _⟩ := read_int Try.underlying3 c3 ((hf 0 _ rfl).trans q0)
  obtain ⟨n1, r1, _⟩ := read_int Try.underlying3 c3 ((hf 1 _ rfl).trans q1)
  obtain ⟨n2, r2, _⟩ := read_int Try.underlying3 c3 ((hf 2 _ rfl).trans q2)
  obtain ⟨n3, r3, _⟩ := read_int Try.underlying3 c3 ((hf 3 _ rfl).trans q3)
  obtain ⟨n4, r4, _⟩ := read_int Try.underlying3 c3 ((hf 4 _ rfl).trans q4)
  obtain ⟨n5, r5, _⟩ := read_int Try.underlying3 c3 ((hf 5 _ rfl).trans q5)
  obtain ⟨n6, r6, _⟩ := read_int Try.underlying3 c3 ((hf 6 _ rfl).trans q6)
  have c32 : Try.prog.cellsOf 32 = 1 := by kernel_rfl
  have h7 := (hf 7 _ rfl).trans q7
  change DataW.trod enc Try.prog w base spare held n 32 ((cs.drop 7).take (Try.prog.cellsOf 32)) = some y7 at h7
  rw [c32] at h7
  have hw7 : ∀ n ∈ y7.1.weights Try.prog 32, n ≤ reachBytes := by
    intro k hk
    refine hw k ?_
    subst hx
    match xs, hxl, q7 with
    | [z0, z1, z2, z3, z4, z5, z6, z7], _, q7 =>
      simp at q7
      subst q7
      rw [DataW.weights, Try.underlying34]
      simp only [DataW.weightsEach, List.map_cons, List.map_nil, List.mem_append]
      simp [hk]
  obtain ⟨A, c, l, e7, hR, _, _, _, hb⟩ := rd_slice i64s (fun _ => True) (B := 8) Try.underlying32 (by kernel_rfl) (by kernel_rfl) (by decide) (fun _ => rfl) read_i64 h7 hw7
  rw [flat_i64s] at hR
  exact ⟨⟨⟨n0, n1, n2, n3, n4, n5, n6, l⟩, A, c⟩, len8 hl r0 r1 r2 r3 r4 r5 r6 (of_one e7), hR, hb⟩
/-- As an argument. -/
theorem arg_sta {r : Reach} {b0 : Nat} {v : Value} {d : DataW H} {p : List MemPlace} (hv : Value.okWide Try.prog w r b0 34 v) (h : DataW.Trod enc Try.prog w base spare held 34 v d p) (hw : ∀ n ∈ d.weights Try.prog 34, n ≤ reachBytes) :
    ∃ (s : Sta) (A : Option Addr) (c : Nat), v = .agg #[.int .i64 s.kind, .int .i64 s.node, .int .i64 s.phase, .int .i64 s.pos, .int .i64 s.start, .int .i64 s.depth, .int .i64 s.org, .slice A s.caps.length c] ∧ Rd w A s.caps.length 1 (ints s.caps) ∧ s.caps.length * 8 ≤ reachBytes := by
  obtain ⟨cs, rfl, hsz⟩ := okWide_struct Try.underlying34 hv
  obtain ⟨fuel, hh⟩ := h
  have hC : Try.prog.cellsOf 34 = 8 := by kernel_rfl
  obtain ⟨⟨s, A, c⟩, h1, h2, h3⟩ := read_sta fuel _ _ (by simp only [Value.cells, Array.length_toList]; rw [hsz, hC]) hh hw
  refine ⟨s, A, c, ?_, h2, h3⟩
  have h1' : cs.toList = _ := h1
  have : cs = (StaM.cells ⟨s, A, c⟩).toArray := by rw [← h1']
  rw [this]; rfl
end
end Go.Proofs.Ytlcglefbhlhcpaa.K
