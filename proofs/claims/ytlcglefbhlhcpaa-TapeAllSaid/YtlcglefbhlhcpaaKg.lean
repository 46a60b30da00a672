/- Reading what isn't owned; orders of what is. -/
import Derived.Test.YtlcglefbhlhcpaaKf
namespace Go.Proofs.Ytlcglefbhlhcpaa.K
open Go.RowKit
set_option linter.unusedVariables false
section
variable {F : List Nat} {w0 w : World} {hp : List Ck}
def permL : List Nat → List Nat → Bool
  | [], l => l.isEmpty
  | i :: is, l => l.contains i && permL is (l.erase i)
theorem permL_perm : ∀ {is l : List Nat}, permL is l = true → is.Perm l
  | [], l, h => by
    have : l = [] := by simpa [permL] using h
    subst this
    exact List.Perm.refl _
  | i :: is, l, h => by
    simp only [permL, Bool.and_eq_true] at h
    have hm : i ∈ l := by simpa using h.1
    exact ((permL_perm h.2).cons i).trans (List.perm_cons_erase hm).symm
def permB (is : List Nat) (n : Nat) : Bool := permL is (List.range n)
theorem permB_perm {is : List Nat} {n : Nat} (h : permB is n = true) : is.Perm (List.range n) := permL_perm h
theorem St.sel (s : St F w0 w hp) (is : List Nat) (hp' : List Ck) (h : is.map (fun i => hp[i]?) = hp'.map some) (hb : permB is hp.length = true) : St F w0 w hp' := by
  refine s.perm ?_
  have h1 := (permB_perm hb).map (fun i => hp[i]?)
  rw [h] at h1
  have h2 : (List.range hp.length).map (fun i => hp[i]?) = hp.map some := by
    apply List.ext_getElem?
    intro j
    by_cases hj : j < hp.length
    · simp [hj]
    · simp [hj]
  rw [h2] at h1
  have h3 := h1.filterMap id
  simpa [List.filterMap_map] using h3.symm
theorem EnvD.setb {dfs : List Deferred} {N : Nat} {env : List (Nat × Value)} {a : Act} (E : EnvD dfs N env a) (t : Nat) {b b' : Bool} (h : look env t = some (.bool b)) (hb : b = b') : EnvD dfs N ((t, .bool b') :: env) a := by
  subst hb
  refine ⟨E.size, E.defers, fun s v hv => ?_⟩
  unfold look at hv
  cases hs : Nat.beq t s with
  | true =>
    rw [hs] at hv
    obtain rfl := Nat.eq_of_beq_eq_true hs
    obtain rfl := Option.some.inj hv
    exact E.slot t _ h
  | false => rw [hs] at hv; exact E.slot s v hv
/-- A slot's value under another name. -/
theorem EnvD.setv {dfs : List Deferred} {N : Nat} {env : List (Nat × Value)} {a : Act} (E : EnvD dfs N env a) (t : Nat) {v v' : Value} (h : look env t = some v) (hv : v = v') : EnvD dfs N ((t, v') :: env) a := by
  subst hv
  refine ⟨E.size, E.defers, fun s u hu => ?_⟩
  unfold look at hu
  cases hs : Nat.beq t s with
  | true =>
    rw [hs] at hu
    obtain rfl := Nat.eq_of_beq_eq_true hs
    obtain rfl := Option.some.inj hu
    exact E.slot t _ h
  | false => rw [hs] at hu; exact E.slot s u hu
theorem St.cast {F : List Nat} {w0 w : World} {hp hp' : List Ck} (s : St F w0 w hp) (h : hp = hp') : St F w0 w hp' := h ▸ s
theorem wp_mid {P : Program} {Q : Exit → Act → World → Prop} {x y : Code} {a : Act} {w : World} (M : Act → World → Prop) (h1 : x.wp P (Exit.then M Q) a w) (h2 : ∀ a w, M a w → y.wp P Q a w) : (Code.seq x y).wp P Q a w := by
  refine wp_seq (wp_mono h1 ?_)
  intro e a' w' h
  cases e with
  | normal => exact h2 a' w' h
  | exit id => exact h
  | goto l => exact h
  | ret => exact h
  | panic ch => exact h
  | outgrown => exact h
theorem run_loadVarAgg {P : Program} {t n : Nat} {p : Addr} {cs : List Value} {w : World} (h : aggSize P t = some n) (hn : Nat.beq cs.length n = true) (hc : ∀ j v, cs[j]? = some v → w.cell? (p.add j) = some v) : (loadVar t p).run P w = .ok (.agg cs.toArray) w := by
  have := run_loadAt_agg h hn hc
  simpa [Instr.loadAt, Instr.sureAddr] using this
theorem run_loadVarOne {P : Program} {t : Nat} {p : Addr} {v : Value} {w : World} (h : oneCell P t = true) (hc : w.cell? p = some v) : (loadVar t p).run P w = .ok v w := by
  have := run_loadAt_one h hc
  simpa [Instr.loadAt, Instr.sureAddr] using this
theorem St.holdsL {A R : List Ck} (s : St F w0 w (A ++ R)) : HoldsAll w A := by
  have h : ∀ c ∈ A, c.holds w := fun c hc => s.all c (List.mem_append_left _ hc)
  clear s
  induction A with
  | nil => trivial
  | cons c A ih => exact ⟨h c List.mem_cons_self, ih (fun d hd => h d (List.mem_cons_of_mem _ hd))⟩
/-- What lies in a block that isn't turned. -/
theorem roObj {b : Nat} {ty : TypeId} {cs : List Value} {fr : Nat × Nat} {j : Nat} {v : Value} (h : w0.heap[b]? = some (.cells cs.toArray ty fr)) (s : St [] w0 w hp) (hj : cs[j]? = some v) : w.cell? ⟨b, j, none⟩ = some v := by
  have hlt := (Array.getElem?_eq_some_iff.1 h).1
  have h2 := (s.chg.block b hlt (by simp)).trans h
  rw [cell_of_row w b j _ ty fr h2]
  simpa using hj
theorem roCell {p : Addr} {v : Value} (h : w0.cell? p = some v) (s : St [] w0 w hp) : w.cell? p = some v := s.chg.cell (by simp) h
theorem Ck.bel {c : Ck} {w w' : World} (h : c.holds w) (hb : Bel w w') : c.holds w' := Ck.local h (fun k hk => hb.block k (Ck.lt h k hk))
theorem St.belT (s : St [] w0 w hp) : Bel w0 w := s.chg.below
/-- A slice that reads as xs, sz cells an element; it may be cut out of a greater one. -/
def Rd (w : World) (A : Option Addr) (n sz : Nat) (xs : List Value) : Prop :=
  xs.length = n * sz ∧ (0 < n → ∃ b o, A = some ⟨b, o, none⟩ ∧ ∀ j v, xs[j]? = some v → w.cell? ⟨b, o + j, none⟩ = some v)
theorem Rd.bel {A : Option Addr} {n sz : Nat} {xs : List Value} (h : Rd w A n sz xs) {w' : World} (hb : Bel w w') : Rd w' A n sz xs := by
  refine ⟨h.1, fun h0 => ?_⟩
  obtain ⟨b, o, hA, hc⟩ := h.2 h0
  exact ⟨b, o, hA, fun j v hj => (hb.cell (p := ⟨b, o + j, none⟩) (World.block_lt_of_cell? w _ (hc j v hj))).trans (hc j v hj)⟩
theorem Rd.nil (w : World) (A : Option Addr) (sz : Nat) : Rd w A 0 sz [] := ⟨by simp, fun h => absurd h (Nat.lt_irrefl 0)⟩
/-- Where it lies. -/
theorem Rd.place {A : Option Addr} {n sz : Nat} {xs : List Value} (h : Rd w A n sz xs) (h0 : 0 < n) : ∃ b o, A = some ⟨b, o, none⟩ ∧ ∀ j v, xs[j]? = some v → w.cell? ⟨b, o + j, none⟩ = some v := h.2 h0
theorem Rd.of_row {A : Option Addr} {n c e sz : Nat} {xs : List Value} (h : (Ck.row (.slice A n c) e sz n xs).holds w) : Rd w A n sz xs := by
  refine ⟨h.1, fun h0 => ?_⟩
  obtain ⟨A', c', hv, h'⟩ := ownsRow_slice h
  cases hv
  rcases h' with ⟨_, _, rfl⟩ | ⟨b, rfl, _⟩
  · omega
  · refine ⟨b, 0, rfl, fun j v hj => ?_⟩
    have hlt := (List.getElem?_eq_some_iff.1 hj).1
    have h2 : w.ownsRow 0 e sz (.slice (some ⟨b, 0, none⟩) n c) n xs := h
    rw [Nat.zero_add, World.ownsRow.cellAt h2 j (by rw [← h2.1]; exact hlt)]
    exact hj
theorem St.rd (s : St F w0 w hp) (i : Nat) {A : Option Addr} {n c e sz : Nat} {xs : List Value} (hi : hp[i]? = some (.row (.slice A n c) e sz n xs)) : Rd w A n sz xs := Rd.of_row (s.all _ (List.mem_of_getElem? hi))
theorem St.rdObj (s : St F w0 w hp) (i : Nat) {b e n sz : Nat} {cs : List Value} (hi : hp[i]? = some (.obj b e cs)) (hn : cs.length = n * sz) : Rd w (some ⟨b, 0, none⟩) n sz cs :=
  ⟨hn, fun _ => ⟨b, 0, rfl, fun j v hj => by rw [Nat.zero_add]; exact s.objCell i j hi hj⟩⟩
/-- The i-th element's cells. -/
theorem rdAt {b o sz : Nat} {xs : List Value} (hc : ∀ j v, xs[j]? = some v → w0.cell? ⟨b, o + j, none⟩ = some v) (s : St [] w0 w hp) (i : Nat) (news : List Value) (hn : ∀ j v, news[j]? = some v → xs[i * sz + j]? = some v) :
    ∀ j v, news[j]? = some v → w.cell? ((⟨b, o + i * sz, none⟩ : Addr).add j) = some v := by
  intro j v h
  rw [add_at, Nat.add_assoc]
  exact roCell (hc _ _ (hn j v h)) s
theorem rdAt1 {b o : Nat} {xs : List Value} (hc : ∀ j v, xs[j]? = some v → w0.cell? ⟨b, o + j, none⟩ = some v) (s : St [] w0 w hp) {i : Nat} {v : Value} (hn : xs[i]? = some v) : w.cell? ⟨b, o + i, none⟩ = some v := roCell (hc _ _ hn) s
theorem ix_at' {b m' sz o : Nat} {m : Int} (h : m = (m' : Int)) : (⟨b, o, none⟩ : Addr).add (m.toNat * sz) = ⟨b, o + m' * sz, none⟩ := by
  subst h
  rw [add_at]
  simp
theorem ix_at1 {b m' o : Nat} {m : Int} (h : m = (m' : Int)) : (⟨b, o, none⟩ : Addr).add (m.toNat * 1) = ⟨b, o + m', none⟩ := by
  subst h
  rw [add_at]
  simp
theorem rdAtL {b o : Nat} {xs : List Value} (hc : ∀ j v, xs[j]? = some v → w0.cell? ⟨b, o + j, none⟩ = some v) (s : St [] w0 w hp) (i : Nat) (news : List Value) (hn : ∀ j v, news[j]? = some v → xs[i + j]? = some v) :
    ∀ j v, news[j]? = some v → w.cell? ((⟨b, o + i, none⟩ : Addr).add j) = some v := by
  intro j v h
  rw [add_at, Nat.add_assoc]
  exact roCell (hc _ _ (hn j v h)) s
theorem ents_get {l : List Ent} {i : Nat} {e : Ent} (h : l[i]? = some e) : ∀ j v, e.cells[j]? = some v → (ents l)[i * 6 + j]? = some v := by
  obtain ⟨hlt, he⟩ := List.getElem?_eq_some_iff.1 h
  subst he
  exact ents_at l i hlt
theorem ints_take1 (l : List Int) (n : Nat) : (ints l).take (n * 1) = ints (l.take n) := by rw [Nat.mul_one]; exact ints_take l n
theorem ints_get' {l : List Int} {i : Nat} {x : Int} (h : l[i]? = some x) : (ints l)[i]? = some (.int .i64 x) := by
  simp [ints, h]
end
end Go.Proofs.Ytlcglefbhlhcpaa.K
