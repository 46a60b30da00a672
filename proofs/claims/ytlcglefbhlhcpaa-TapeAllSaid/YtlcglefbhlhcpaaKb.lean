/- Memory as a list of what is owned; the operations, one lemma each. -/
import Derived.Test.YtlcglefbhlhcpaaKa
import Derived.WalkKit
import Derived.Laws.Slices
import Derived.Laws.Rows
import Derived.Laws.Tables
import Derived.Laws.BytesString
namespace Go.Proofs.Ytlcglefbhlhcpaa.K
open Go.RowKit
set_option linter.unusedVariables false

/-! ### 4. Memory -/
/-- What has been turned: at most blocks of F, and what is new. -/
structure Chg (F : List Nat) (w w' : World) : Prop where
  os : w'.os = w.os
  tape : w'.tape = w.tape
  output : w'.output = w.output
  size : w.heap.size ≤ w'.heap.size
  block : ∀ k, k < w.heap.size → k ∉ F → w'.heap[k]? = w.heap[k]?
theorem Chg.refl (F : List Nat) (w : World) : Chg F w w := ⟨rfl, rfl, rfl, Nat.le_refl _, fun _ _ _ => rfl⟩
theorem Chg.below {w w' : World} (h : Chg [] w w') : Below w.heap.size w w' := ⟨h.os, h.tape, h.output, h.size, fun k hk => h.block k hk (by simp)⟩
theorem Chg.of {w w' : World} (h : Below w.heap.size w w') (F : List Nat) : Chg F w w' := ⟨h.os, h.tape, h.output, h.size, fun k hk _ => h.block k hk⟩
theorem Chg.cell {F : List Nat} {w w' : World} (h : Chg F w w') {p : Addr} {v : Value} (hp : p.block ∉ F) (hc : w.cell? p = some v) : w'.cell? p = some v :=
  (World.cell?_of_block (h.block p.block (World.block_lt_of_cell? w p hc) hp)).trans hc
/-- A slice of numbers of the call's own making. -/
structure IRow where
  (A : Option Addr) (c : Nat) (xs : List Int)
def IRow.hdr (r : IRow) : Value := .slice r.A r.xs.length r.c
def IRow.fp (r : IRow) : List Nat := r.hdr.ownBlock.toList
def IRow.holds (r : IRow) (w : World) : Prop := w.ownsRow 0 3 1 r.hdr r.xs.length (r.xs.map (.int .i64))
/-- A piece of memory that is owned: a block whose cells are all known, a slice of the call's own making, or many such of numbers. -/
inductive Ck where
  | obj (b : Nat) (ty : TypeId) (cs : List Value)
  | row (v : Value) (e : TypeId) (sz n : Nat) (xs : List Value)
  | rows (l : List IRow)
def Ck.fp : Ck → List Nat
  | .obj b _ _ => [b]
  | .row v _ _ _ _ => v.ownBlock.toList
  | .rows l => l.flatMap IRow.fp
def Ck.holds : Ck → World → Prop
  | .obj b ty cs, w => w.heap[b]? = some (.cells cs.toArray ty (0, 0))
  | .row v e sz n xs, w => w.ownsRow 0 e sz v n xs
  | .rows l, w => ∀ r ∈ l, r.holds w
def fps (hp : List Ck) : List Nat := hp.flatMap Ck.fp
theorem ownsRow_local {v : Value} {e sz n : Nat} {xs : List Value} {w w' : World} (h : w.ownsRow 0 e sz v n xs) (hb : ∀ k ∈ v.ownBlock.toList, w'.heap[k]? = w.heap[k]?) : w'.ownsRow 0 e sz v n xs := by
  refine ⟨h.1, ?_⟩
  rcases h.2 with h2 | ⟨g, cap, cur, hv, hg, hh, r⟩
  · exact .inl h2
  · exact .inr ⟨g, cap, cur, hv, hg, (hb g (by subst hv; simp [Value.ownBlock])).trans hh, r⟩
theorem Ck.local {c : Ck} {w w' : World} (h : c.holds w) (hb : ∀ k ∈ c.fp, w'.heap[k]? = w.heap[k]?) : c.holds w' := by
  cases c with
  | obj b ty cs => exact (hb b (by simp [Ck.fp])).trans h
  | row v e sz n xs =>
    refine ⟨h.1, ?_⟩
    rcases h.2 with h2 | ⟨g, cap, cur, hv, hg, hh, r⟩
    · exact .inl h2
    · exact .inr ⟨g, cap, cur, hv, hg, (hb g (by subst hv; simp [Ck.fp, Value.ownBlock])).trans hh, r⟩
  | rows l => exact fun r hr => ownsRow_local (h r hr) (fun k hk => hb k (List.mem_flatMap.2 ⟨r, hr, hk⟩))
theorem Ck.lt {c : Ck} {w : World} (h : c.holds w) : ∀ k ∈ c.fp, k < w.heap.size := by
  intro k hk
  cases c with
  | obj b ty cs =>
    simp only [Ck.fp, List.mem_singleton] at hk
    subst hk
    exact (Array.getElem?_eq_some_iff.1 h).1
  | row v e sz n xs =>
    simp only [Ck.fp, Option.mem_toList] at hk
    exact (World.ownsRow.lt h k hk).2
  | rows l =>
    obtain ⟨r, hr, hk⟩ := List.mem_flatMap.1 hk
    simp only [IRow.fp, Option.mem_toList] at hk
    exact (World.ownsRow.lt (h r hr) k hk).2
/-- The state of memory in a call: w0 the world at its start, F the blocks of its caller's that it may turn, hp what it owns now. -/
structure St (F : List Nat) (w0 w : World) (hp : List Ck) : Prop where
  chg : Chg F w0 w
  all : ∀ c ∈ hp, c.holds w
  nodup : (fps hp).Nodup
  fresh : ∀ b ∈ fps hp, b ∈ F ∨ w0.heap.size ≤ b
theorem St.start {w : World} (hp : List Ck) (h : ∀ c ∈ hp, c.holds w) (hn : (fps hp).Nodup) : St (fps hp) w w hp :=
  ⟨Chg.refl _ _, h, hn, fun b hb => .inl hb⟩
theorem St.nil (F : List Nat) (w : World) : St F w w [] := ⟨Chg.refl _ _, fun _ h => (by cases h), List.nodup_nil, fun _ h => (by cases h)⟩
theorem fps_lt {hp : List Ck} {w : World} (h : ∀ c ∈ hp, c.holds w) : ∀ k ∈ fps hp, k < w.heap.size := by
  intro k hk
  obtain ⟨c, hc, hk⟩ := List.mem_flatMap.1 hk
  exact Ck.lt (h c hc) k hk
theorem St.lt {F : List Nat} {w0 w : World} {hp : List Ck} (s : St F w0 w hp) : ∀ k ∈ fps hp, k < w.heap.size := fps_lt s.all
theorem Chg.trans {F : List Nat} {a b c : World} (h : Chg F a b) (k : Chg F b c) : Chg F a c :=
  ⟨k.os.trans h.os, k.tape.trans h.tape, k.output.trans h.output, Nat.le_trans h.size k.size, fun i hi hf => (k.block i (Nat.lt_of_lt_of_le hi h.size) hf).trans (h.block i hi hf)⟩
/-- Nothing that was there is turned. -/
theorem St.bel {F : List Nat} {w0 w w' : World} {hp : List Ck} (s : St F w0 w hp) (h : Bel w w') : St F w0 w' hp :=
  ⟨s.chg.trans (Chg.of h F), fun c hc => Ck.local (s.all c hc) (fun k hk => h.block k (Ck.lt (s.all c hc) k hk)), s.nodup, s.fresh⟩
theorem St.drew {F : List Nat} {w0 w : World} {hp : List Ck} (s : St F w0 w hp) : St F w0 w.drew hp := s.bel (Below.refl _ _).drew
theorem St.ext {F : List Nat} {w0 w w' : World} {hp : List Ck} (s : St F w0 w hp) (h : w'.heap = w.heap) (ho : w'.os = w.os) (ht : w'.tape = w.tape) (hq : w'.output = w.output) : St F w0 w' hp :=
  s.bel ⟨ho, ht, hq, by rw [h]; exact Nat.le_refl _, fun k _ => by rw [h]⟩
/-- What a call hands back: A was lent, A' comes back; the rest stands. -/
theorem St.call {F : List Nat} {w0 w w' : World} {A A' R : List Ck} (s : St F w0 w (A ++ R)) (h : St (fps A) w w' A') : St F w0 w' (A' ++ R) := by
  have hn := s.nodup
  have hfA : fps (A ++ R) = fps A ++ fps R := by simp [fps]
  have hfA' : fps (A' ++ R) = fps A' ++ fps R := by simp [fps]
  rw [hfA] at hn
  have hd := (List.nodup_append.1 hn)
  have hR : ∀ c ∈ R, c.holds w := fun c hc => s.all c (List.mem_append_right _ hc)
  have hRlt := fps_lt hR
  have hAF : ∀ b ∈ fps A, b < w0.heap.size → b ∈ F := fun b hb hlt => by
    rcases s.fresh b (by rw [hfA]; exact List.mem_append_left _ hb) with h1 | h1
    · exact h1
    · omega
  refine ⟨⟨h.chg.os.trans s.chg.os, h.chg.tape.trans s.chg.tape, h.chg.output.trans s.chg.output, Nat.le_trans s.chg.size h.chg.size, fun k hk hkF => ?_⟩, fun c hc => ?_, ?_, fun b hb => ?_⟩
  · refine (h.chg.block k (Nat.lt_of_lt_of_le hk s.chg.size) (fun hkA => hkF (hAF k hkA hk))).trans (s.chg.block k hk hkF)
  · rcases List.mem_append.1 hc with hc | hc
    · exact h.all c hc
    · exact Ck.local (hR c hc) (fun k hk => h.chg.block k (Ck.lt (hR c hc) k hk) (fun hkA => hd.2.2 k hkA k (List.mem_flatMap.2 ⟨c, hc, hk⟩) rfl))
  · rw [hfA']
    refine List.nodup_append.2 ⟨h.nodup, hd.2.1, fun b hb c hc e => ?_⟩
    subst e
    rcases h.fresh b hb with h1 | h1
    · exact hd.2.2 b h1 b hc rfl
    · have := hRlt b hc; omega
  · rw [hfA'] at hb
    rcases List.mem_append.1 hb with hb | hb
    · rcases h.fresh b hb with h1 | h1
      · exact s.fresh b (by rw [hfA]; exact List.mem_append_left _ h1)
      · exact .inr (Nat.le_trans s.chg.size h1)
    · exact s.fresh b (by rw [hfA]; exact List.mem_append_right _ hb)
/-- In another order. -/
theorem St.perm {F : List Nat} {w0 w : World} {hp : List Ck} (s : St F w0 w hp) {hp' : List Ck} (h : hp.Perm hp') : St F w0 w hp' := by
  have hf : (fps hp).Perm (fps hp') := h.flatMap_right _
  exact ⟨s.chg, fun c hc => s.all c (h.mem_iff.2 hc), hf.nodup_iff.1 s.nodup, fun b hb => s.fresh b (hf.mem_iff.2 hb)⟩
theorem pull_perm {l : List Ck} {i : Nat} {c : Ck} (hi : l[i]? = some c) : l.Perm (c :: l.eraseIdx i) := by
  obtain ⟨hlt, hc⟩ := List.getElem?_eq_some_iff.1 hi
  have h : l = l.take i ++ c :: l.drop (i + 1) := by
    subst hc
    rw [← List.drop_eq_getElem_cons hlt, List.take_append_drop]
  rw [List.eraseIdx_eq_take_drop_succ]
  have h2 : (l.take i ++ c :: l.drop (i + 1)).Perm (c :: (l.take i ++ l.drop (i + 1))) := List.perm_middle
  rw [← h] at h2
  exact h2
/-- The i-th in front. -/
theorem St.pull {F : List Nat} {w0 w : World} {hp : List Ck} (s : St F w0 w hp) (i : Nat) {c : Ck} {r : List Ck} (hi : hp[i]? = some c) (hr : hp.eraseIdx i = r) : St F w0 w (c :: r) := by
  refine s.perm ?_
  subst hr
  exact pull_perm hi
/-- Some of it is let go. -/
theorem St.drop1 {F : List Nat} {w0 w : World} {c : Ck} {r : List Ck} (s : St F w0 w (c :: r)) : St F w0 w r := by
  have hf : fps (c :: r) = c.fp ++ fps r := by simp [fps]
  refine ⟨s.chg, fun d hd => s.all d (List.mem_cons_of_mem _ hd), ?_, fun b hb => s.fresh b (by rw [hf]; exact List.mem_append_right _ hb)⟩
  have := s.nodup
  rw [hf] at this
  exact (List.nodup_append.1 this).2.1
theorem St.obj {F : List Nat} {w0 w : World} {hp : List Ck} (s : St F w0 w hp) (i : Nat) {b : Nat} {ty : TypeId} {cs : List Value} (hi : hp[i]? = some (.obj b ty cs)) : w.heap[b]? = some (.cells cs.toArray ty (0, 0)) :=
  s.all _ (List.mem_of_getElem? hi)
theorem St.row {F : List Nat} {w0 w : World} {hp : List Ck} (s : St F w0 w hp) (i : Nat) {v : Value} {e : TypeId} {sz n : Nat} {xs : List Value} (hi : hp[i]? = some (.row v e sz n xs)) : w.ownsRow 0 e sz v n xs :=
  s.all _ (List.mem_of_getElem? hi)
theorem St.objCell {F : List Nat} {w0 w : World} {hp : List Ck} (s : St F w0 w hp) (i j : Nat) {b : Nat} {ty : TypeId} {cs : List Value} {v : Value} (hi : hp[i]? = some (.obj b ty cs)) (hj : cs[j]? = some v) : w.cell? ⟨b, j, none⟩ = some v := by
  rw [cell_of_row w b j _ ty (0, 0) (s.obj i hi)]
  simpa using hj
theorem St.rowCell {F : List Nat} {w0 w : World} {hp : List Ck} (s : St F w0 w hp) (i : Nat) {b n c e sz : Nat} {xs : List Value} (hi : hp[i]? = some (.row (.slice (some ⟨b, 0, none⟩) n c) e sz n xs)) {j : Nat} {v : Value} (hj : xs[j]? = some v) : w.cell? ⟨b, j, none⟩ = some v := by
  have h := s.row i hi
  have hlt := (List.getElem?_eq_some_iff.1 hj).1
  rw [World.ownsRow.cellAt h j (by rw [← h.1]; exact hlt)]
  exact hj
/-- A new block. -/
theorem St.alloc {F : List Nat} {w0 w : World} {hp : List Ck} (s : St F w0 w hp) (ty : TypeId) (cs : Array Value) : St F w0 (w.alloc (.cells cs ty)) (.obj w.heap.size ty cs.toList :: hp) := by
  have hb : Bel w (w.alloc (.cells cs ty)) := (Below.refl _ _).alloc (Nat.le_refl _) _
  have s' := s.bel hb
  have hf : fps (.obj w.heap.size ty cs.toList :: hp) = w.heap.size :: fps hp := by simp [fps, Ck.fp]
  refine ⟨s'.chg, fun c hc => ?_, ?_, fun b hb => ?_⟩
  · rcases List.mem_cons.1 hc with rfl | hc
    · show (w.alloc (.cells cs ty)).heap[w.heap.size]? = _
      rw [heap_alloc_new w]
    · exact s'.all c hc
  · rw [hf]
    exact List.nodup_cons.2 ⟨fun hm => by have := s.lt _ hm; omega, s.nodup⟩
  · rw [hf] at hb
    rcases List.mem_cons.1 hb with rfl | hb
    · exact .inr s.chg.size
    · exact s.fresh b hb
/-- What is owned is turned, and nothing else. -/
theorem St.turn {F : List Nat} {w0 w w' : World} {hp : List Ck} (s : St F w0 w hp) (i : Nat) {c c' : Ck} (hi : hp[i]? = some c) (hc : Chg c.fp w w') (h' : c'.holds w') (hf : ∀ b ∈ c'.fp, b ∈ c.fp ∨ b = w.heap.size) (hn : c'.fp.Nodup) : St F w0 w' (hp.set i c') := by
  have h1 : hp.set i c' = hp.take i ++ c' :: hp.drop (i + 1) := by
    obtain ⟨hlt, _⟩ := List.getElem?_eq_some_iff.1 hi
    rw [List.set_eq_take_append_cons_drop, if_pos hlt]
  have h2 : hp.Perm (c :: hp.eraseIdx i) := pull_perm hi
  have s2 := s.perm h2
  have s3 : St F w0 w' ([c'] ++ hp.eraseIdx i) := St.call (A := [c]) (A' := [c']) (R := hp.eraseIdx i) s2 ⟨by simpa [fps] using hc, fun d hd => by simp at hd; subst hd; exact h', by simpa [fps] using hn, fun b hb => by
    have hb' : b ∈ c'.fp := by simpa [fps] using hb
    rcases hf b hb' with h | h
    · exact .inl (by simpa [fps] using h)
    · exact .inr (by omega)⟩
  refine s3.perm ?_
  rw [h1, List.eraseIdx_eq_take_drop_succ]
  exact (List.perm_middle (l₁ := hp.take i) (a := c') (l₂ := hp.drop (i + 1))).symm
theorem Chg.setCell (w : World) (p : Addr) (v : Value) : Chg [p.block] w (w.setCell p v) :=
  ⟨rfl, rfl, rfl, by simp, fun k _ hk => Below.heap_setCell w p v k (by simpa using hk)⟩
theorem St.setObj {F : List Nat} {w0 w : World} {hp : List Ck} (s : St F w0 w hp) (i j : Nat) {b : Nat} {ty : TypeId} {cs : List Value} (v : Value) (hi : hp[i]? = some (.obj b ty cs)) : St F w0 (w.setCell ⟨b, j, none⟩ v) (hp.set i (.obj b ty (cs.set j v))) := by
  refine s.turn i hi (Chg.setCell w ⟨b, j, none⟩ v) ?_ (fun k hk => .inl hk) (by simp [Ck.fp])
  show (w.setCell ⟨b, j, none⟩ v).heap[b]? = _
  rw [heap_setCell_same w b j _ ty v (s.obj i hi)]
  simp
theorem Chg.grown {w w' : World} {r : Option Nat} (h : w.grownBy w' r) : Chg r.toList w w' :=
  ⟨h.os, h.tape, h.output, h.size, fun k hk hn => h.block k hk (fun e => hn (by simp [← e]))⟩
theorem St.setRow {F : List Nat} {w0 w : World} {hp : List Ck} (s : St F w0 w hp) (i j : Nat) {b n c e sz : Nat} {xs : List Value} (v : Value) (hi : hp[i]? = some (.row (.slice (some ⟨b, 0, none⟩) n c) e sz n xs)) :
    St F w0 (w.setCell ⟨b, j, none⟩ v) (hp.set i (.row (.slice (some ⟨b, 0, none⟩) n c) e sz n (xs.set j v))) :=
  s.turn i hi (Chg.grown ((s.row i hi).stored j v).2) ((s.row i hi).stored j v).1 (fun k hk => .inl hk) (by simp [Ck.fp, Value.ownBlock])
end Go.Proofs.Ytlcglefbhlhcpaa.K
