/- The row of PilePlays: for every input the law returns true, and each argument reads behind the call as it read before. Conditions: none beyond the given row's. -/
import Derived.Test.YtlcglefbhlhcpaaRows
import Derived.Test.YtlcglefbhlhcpaaPileL
import Derived.Test.YtlcglefbhlhcpaaKr
import Derived.WalkKit
import Derived.ProofKit
import Derived.OpenShut
import Derived.ShutString
import Derived.ChangeOld
import Derived.Below
import Derived.SizedLaws
import Derived.Lib.SmallJoins
namespace Go.Proofs.Ytlcglefbhlhcpaa.pilePlays
open Go.ChangeShapes Go.WideShapes Go.ChangeAt Go.RowKit Go.Joins Go.Deep Go.Proofs.Ytlcglefbhlhcpaa.K
open Go.ChangeMaps (open_string shut_string)
set_option linter.unusedVariables false
theorem own : ownKnob Try.prog.godebug = none := by kernel_rfl
theorem laidOut : laidOutB Try.prog = true := by kernel_rfl
section
variable {H : Type} {enc : TypeId × Value → H} {w : World} {base : Nat} {spare : Nat → Bool} {held : Bool}
set_option maxRecDepth 100000 in
/-- A step that came in. -/
theorem read_pop (fuel : Nat) (cs : List Value) (x : DataW H × List MemPlace) (hl : cs.length = 7) (h : DataW.trod enc Try.prog w base spare held fuel 63 cs = some x) (_ : ∀ n ∈ x.1.weights Try.prog 63, n ≤ reachBytes) : ∃ o : POp, cs = o.cells ∧ True := by
  obtain ⟨xs, n, _, _, _, hxl, hf⟩ := DataW.trod_struct Try.underlying63 h
  obtain ⟨y0, q0⟩ : ∃ y, xs[0]? = some y := ⟨_, List.getElem?_eq_getElem (by rw [hxl]; decide)⟩
  obtain ⟨y1, q1⟩ : ∃ y, xs[1]? = some y := ⟨_, List.getElem?_eq_getElem (by rw [hxl]; decide)⟩
  obtain ⟨k, r0, _⟩ := read_int Try.underlying3 c3 ((hf 0 _ rfl).trans q0)
  have h1 := (hf 1 _ rfl).trans q1
  have c43 : Try.prog.cellsOf 43 = 6 := by kernel_rfl
  match cs, hl with
  | [z0, z1, z2, z3, z4, z5, z6], _ =>
    change DataW.trod enc Try.prog w base spare held n 43 (([z0, z1, z2, z3, z4, z5, z6].drop 1).take (Try.prog.cellsOf 43)) = some y1 at h1
    rw [c43] at h1
    change DataW.trod enc Try.prog w base spare held n 43 [z1, z2, z3, z4, z5, z6] = some y1 at h1
    change [z0, z1, z2, z3, z4, z5, z6][0]? = some (.int .i64 k) at r0
    obtain ⟨xs', n', _, _, _, hxl', hf'⟩ := DataW.trod_struct Try.underlying43 h1
    have get : ∀ i, i < 6 → ∃ y, xs'[i]? = some y := fun i hi => ⟨_, List.getElem?_eq_getElem (by rw [hxl']; exact hi)⟩
    obtain ⟨y0', p0⟩ := get 0 (by decide); obtain ⟨y1', p1⟩ := get 1 (by decide); obtain ⟨y2', p2⟩ := get 2 (by decide); obtain ⟨y3', p3⟩ := get 3 (by decide); obtain ⟨y4', p4⟩ := get 4 (by decide); obtain ⟨y5', p5⟩ := get 5 (by decide)
    obtain ⟨b, s0⟩ := read_bool Try.underlying4 c4 ((hf' 0 _ rfl).trans p0)
    obtain ⟨n1, s1, _⟩ := read_int Try.underlying3 c3 ((hf' 1 _ rfl).trans p1)
    obtain ⟨n2, s2, _⟩ := read_int Try.underlying3 c3 ((hf' 2 _ rfl).trans p2)
    obtain ⟨n3, s3, _⟩ := read_int Try.underlying3 c3 ((hf' 3 _ rfl).trans p3)
    obtain ⟨n4, s4, _⟩ := read_int Try.underlying3 c3 ((hf' 4 _ rfl).trans p4)
    obtain ⟨n5, s5, _⟩ := read_int Try.underlying3 c3 ((hf' 5 _ rfl).trans p5)
    have e := len6 rfl s0 s1 s2 s3 s4 s5
    simp at e r0
    obtain ⟨rfl, rfl, rfl, rfl, rfl, rfl⟩ := e
    subst r0
    exact ⟨⟨k, ⟨b, n1, n2, n3, n4, n5⟩⟩, rfl, trivial⟩
end
set_option maxRecDepth 100000 in
theorem lifted (os : Os) (started : os.Started) (H : Type) (enc : TypeId × Value → H) :
    ReturnsInHanded {} Try.checked os 8 .any (Rows.pilePlaysSpec.pre6 enc Try.prog Try.f8 Rows.pilePlaysRow.domain false) (Rows.pilePlaysSpec.post enc Try.prog Try.f8 false true false false) := by
  refine returnsInHanded_of_change_sized (C := Try.checked) own started (by kernel_rfl) Try.func8
    (ChangeSpec.witness6 (enc := enc) (C := Try.checked) false ⟨#[], #[.int .i64 0, .slice none 0 0], []⟩ 8 (by kernel_rfl) (by kernel_rfl) (by kernel_rfl) (by kernel_rfl)) ?_
  intro W base args ds gs before hval0 hW hcnd hsz0 _
  have hsz : (DataW.weightsEach Try.prog (Try.f8.params.toList ++ Rows.pilePlaysSpec.plain.varTypes Try.prog) (ds ++ gs)).all (· ≤ reachBytes) = true := hsz0
  have hval : ∀ (j : Nat) t v, Try.f8.params[j]? = some t → args[j]? = some v → Value.okWide Try.prog W .any base t v := hval0
  have hW' := hW
  obtain ⟨p, q, hA0, hV, rfl, hfz, hnd⟩ := hW
  have hA : DataW.TrodAll enc Try.prog W 0 (fun _ => true) true Try.f8.params.toList args.toList ds p := hA0
  rw [Try.params8] at hA hval hsz
  obtain ⟨v0, vs0, d0, ds0, p0, q0, hargs, rfl, rfl, h0, r0⟩ := trodAll_cons hA
  obtain ⟨v1, vs1, d1, ds1, p1, q1, rfl, rfl, rfl, h1, r1⟩ := trodAll_cons r0
  obtain ⟨rfl, rfl, rfl⟩ := trodAll_nil r1
  obtain rfl : args = #[v0, v1] := by cases args; simp_all
  obtain ⟨rfl, rfl⟩ := trodVars_none hV
  obtain ⟨limit, rfl, rfl, rfl, w0⟩ := open_int Try.underlying3 (hval 0 3 v0 rfl rfl) h0
  have k1 := h1
  have lt1 : ∀ x ∈ p1, x.block < W.heap.size := by obtain ⟨m, hm⟩ := k1; exact DataW.trod_lt m _ _ _ hm
  have wt1 : ∀ n ∈ d1.weights Try.prog 61, n ≤ reachBytes := fun n hn => by have := List.all_eq_true.1 hsz _ (DataW.weights_mem_each (j := 1) rfl rfl n hn); simpa using this
  obtain ⟨A, c, ops, rfl, H1, _, _, _, l1⟩ := arg_slice POp.cells (fun _ => True) Try.underlying61 (by kernel_rfl) (B := 56) (by kernel_rfl) (by decide) (fun _ => rfl) read_pop (hval 1 61 v1 rfl rfl) h1 wt1
  clear hA0 hval0 hsz0 hsz
  refine (pilePlays_walk H1).mono fun e W' ⟨he, bel⟩ => ?_
  subst he
  exact ⟨_, rfl, _, _, _, [], _, [], hW', trodAll_mk1 (shut_bool Try.underlying4 _), (trodAll_cons_mk (shut_int Try.underlying3 w0) (trodAll_cons_mk (Below.trod laidOut (by kernel_rfl) (of_decide_eq_true (by kernel_rfl)) k1 bel lt1) trodAll_mk0)), rfl, bel.frame _, fun h => by cases h⟩
theorem over : Rows.pilePlaysRow.holds Try.pinned (OpenSpec.ofChange Rows.pilePlaysSpec) :=
  OpenClaim.holds_of_wide 8 Try.f8 rfl rfl rfl rfl rfl rfl rfl ⟨rfl, rfl, rfl, rfl, rfl⟩ rfl rfl rfl rfl rfl (by kernel_rfl) Try.func8 (by kernel_rfl)
    (of_decide_eq_true (by kernel_rfl)) (by unfold Func.isWrapper; first | (rw [if_pos (by decide +kernel)]; kernel_rfl) | (rw [if_neg (by decide +kernel)]; exact ⟨rfl, rfl⟩))
    (fun os started H enc _ => lifted os started H enc)
theorem proved : Rows.PilePlaysSaid := over
end Go.Proofs.Ytlcglefbhlhcpaa.pilePlays
namespace Go.Proofs.Ytlcglefbhlhcpaa
/-- The row, under a short name, for the claim. -/
theorem pilePlays_holds : Rows.PilePlaysSaid := pilePlays.proved
end Go.Proofs.Ytlcglefbhlhcpaa
