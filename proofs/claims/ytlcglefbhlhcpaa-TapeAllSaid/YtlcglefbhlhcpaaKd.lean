/- The operations that make memory or turn it; the code around the regions. -/
import Derived.Test.YtlcglefbhlhcpaaKc
import Derived.Laws.CopyRow
import Derived.Laws.CopyOwn
namespace Go.Proofs.Ytlcglefbhlhcpaa.K
open Go.RowKit
set_option linter.unusedVariables false
section
variable {P : Program} {ops : Array Oper} {Q : Exit → Act → World → Prop} {dfs : List Deferred} {N : Nat} {env : List (Nat × Value)} {a : Act} {w : World} {i d : Nat} {k : Kind} {r : List (Nat × Kind)}
variable {ty : TypeId} {pos : String} {af : Array Edge} {g : Option (Nat × Bool)} {v u : Value}
variable {F : List Nat} {w0 : World} {hp : List Ck}

/-! ### 7. New memory -/
theorem bel_alloc (w : World) (o : Obj) : Bel w (w.alloc o) := (Below.refl _ _).alloc (Nat.le_refl _) _
theorem Run.alloc {e : TypeId} {z : Value} {cs : List Value} (hk : eff k = true) (hi : ops[i]? = some ⟨some d, .alloc e, ty, pos, af, g⟩) (E : EnvD dfs N env a) (S : St F w0 w hp) (hw : wnt ops env g = true) (hN : Nat.blt d N = true)
    (hz : (P.info? e).bind (·.zero) = some z) (hc : z.cells = cs.toArray) (K : ∀ b w' a', EnvD dfs N ((d, .pointer (some ⟨b, 0, none⟩)) :: env) a' → St F w0 w' (.obj b e cs :: hp) → Bel w w' → Run P ops Q r a' w') : Run P ops Q ((i, k) :: r) a w := by
  obtain ⟨inf, hinf, hz'⟩ := Option.bind_eq_some_iff.1 hz
  refine Run.ef hk hi E hw hN (v := .pointer (some ⟨w.heap.size, 0, none⟩)) (w1 := w.alloc (.cells z.cells e)) ?_ (fun _ => bel_alloc w _) (fun a' E' => K _ _ a' E' ?_ (bel_alloc w _))
  · simp [execOp, Instr.alloc, zeroValue, typeInfo, hinf, hz', newVar, newRow]
  · have := S.alloc e z.cells
    rw [hc] at this ⊢
    exact this
theorem Run.box {e : TypeId} {x : Operand} {vx : Value} {cs : List Value} (hk : eff k = true) (hi : ops[i]? = some ⟨some d, .box e x, ty, pos, af, g⟩) (E : EnvD dfs N env a) (S : St F w0 w hp) (hw : wnt ops env g = true) (hN : Nat.blt d N = true)
    (hx : ev env x = some vx) (hc : vx.cells = cs.toArray) (K : ∀ b w' a', EnvD dfs N ((d, .pointer (some ⟨b, 0, none⟩)) :: env) a' → St F w0 w' (.obj b e cs :: hp) → Bel w w' → Run P ops Q r a' w') : Run P ops Q ((i, k) :: r) a w := by
  refine Run.ef hk hi E hw hN (v := .pointer (some ⟨w.heap.size, 0, none⟩)) (w1 := w.alloc (.cells vx.cells e)) ?_ (fun _ => bel_alloc w _) (fun a' E' => K _ _ a' E' ?_ (bel_alloc w _))
  · simp [execOp, Instr.box, newVar, newRow, E.eval hx]
  · have := S.alloc e vx.cells
    rw [hc] at this ⊢
    exact this
/-- The cells of a slice literal. -/
def litCells (P : Program) (t len : Nat) (parts : List (Nat × Value)) : Option (Array Value) := match P.underlying t with
  | some (.slice e) => match P.info? e with
    | some inf => match inf.zero with
      | some z => if len * inf.size > 16777216 then none else Instr.fill (fun i => some (i * inf.size, inf.size)) (if len * inf.size = 0 then #[] else (Array.range (len * inf.size)).map (z.cells[· % z.cells.size]!)) parts
      | none => none
    | none => none
  | _ => none
theorem run_buildSlice {t e len : Nat} {parts : Array (Nat × Value)} {cells : Array Value} (h : litCells P t len parts.toList = some cells) (he : P.underlying t = some (.slice e)) (w : World) :
    (Instr.buildSlice t len parts).run P w = .ok (.slice (some ⟨w.heap.size, 0, none⟩) len len) (w.alloc (.cells cells e)) := by
  unfold litCells at h
  rw [he] at h
  dsimp only at h
  cases hinf : P.info? e with
  | none => rw [hinf] at h; cases h
  | some inf =>
    rw [hinf] at h
    dsimp only at h
    cases hz : inf.zero with
    | none => rw [hz] at h; cases h
    | some z =>
      rw [hz] at h
      dsimp only at h
      by_cases hb : len * inf.size > 16777216
      · rw [if_pos hb] at h; cases h
      · rw [if_neg hb] at h
        have hb' : ¬ 16777216 < len * inf.size := hb
        by_cases h0 : len * inf.size = 0
        · rw [if_pos h0] at h
          have h' : Instr.fill (fun i => some (i * inf.size, inf.size)) (Array.map (fun x => (default : Value)) (Array.range 0)) parts.toList = some cells := by
            rw [show (Array.map (fun x => (default : Value)) (Array.range 0)) = #[] from by simp [Array.range_zero']]
            exact h
          simp [Instr.buildSlice, run_underlying he, sizeOf, typeInfo, hinf, h0, newRow, h']
        · rw [if_neg h0] at h
          simp [Instr.buildSlice, run_underlying he, sizeOf, typeInfo, hinf, h0, zeroValue, hz, newRow, hb', h]
theorem parts_ev {parts : List (Nat × Operand)} {pv : List (Nat × Value)} (E : EnvD dfs N env a) (h : parts.map (fun p => (p.1, ev env p.2)) = pv.map (fun p => (p.1, some p.2))) : parts.map (fun p => (p.1, a.eval p.2)) = pv := by
  induction parts generalizing pv with
  | nil => cases pv with
    | nil => rfl
    | cons _ _ => cases h
  | cons x xs ih => cases pv with
    | nil => cases h
    | cons y ys =>
      simp only [List.map_cons, List.cons.injEq, Prod.mk.injEq] at h ⊢
      obtain ⟨⟨h1, h2⟩, h3⟩ := h
      refine ⟨?_, ih h3⟩
      rw [h1, E.eval h2]
theorem Run.buildSlice {t e len : Nat} {parts : List (Nat × Operand)} {cs : List Value} (pv : List (Nat × Value)) (hk : eff k = true) (hi : ops[i]? = some ⟨some d, .buildSlice t len parts.toArray, ty, pos, af, g⟩) (E : EnvD dfs N env a) (S : St F w0 w hp) (hw : wnt ops env g = true) (hN : Nat.blt d N = true)
    (hp' : parts.map (fun p => (p.1, ev env p.2)) = pv.map (fun p => (p.1, some p.2))) (he : P.underlying t = some (.slice e)) (hl : litCells P t len pv = some cs.toArray)
    (K : ∀ b w' a', EnvD dfs N ((d, .slice (some ⟨b, 0, none⟩) len len) :: env) a' → St F w0 w' (.obj b e cs :: hp) → Bel w w' → Run P ops Q r a' w') : Run P ops Q ((i, k) :: r) a w := by
  have hm := parts_ev E hp'
  refine Run.ef hk hi E hw hN (v := .slice (some ⟨w.heap.size, 0, none⟩) len len) (w1 := w.alloc (.cells cs.toArray e)) ?_ (fun _ => bel_alloc w _) (fun a' E' => K _ _ a' E' ?_ (bel_alloc w _))
  · have := run_buildSlice (P := P) (parts := pv.toArray) (by simpa using hl) he w
    simp only [execOp]
    rw [show (parts.toArray.map fun (i, x) => (i, a.eval x)) = pv.toArray by
      rw [← hm]; simp]
    simp [this]
  · exact S.alloc e cs.toArray
theorem Run.build {t : Nat} {parts : List (Nat × Operand)} {cs : Array Value} (pv : List (Nat × Value)) (hi : ops[i]? = some ⟨some d, .build t parts.toArray, ty, pos, af, g⟩) (E : EnvD dfs N env a) (hw : wnt ops env g = true) (hN : Nat.blt d N = true)
    (hp' : parts.map (fun p => (p.1, ev env p.2)) = pv.map (fun p => (p.1, some p.2))) (hl : P.built t pv = some cs)
    (K : ∀ a', EnvD dfs N ((d, .agg cs) :: env) a' → Run P ops Q r a' w) : Run P ops Q ((i, k) :: r) a w := by
  have hm := parts_ev E hp'
  refine Run.val hi E hw hN (fun w => ?_) K
  have := run_build (P := P) w t pv.toArray cs (by simpa using hl)
  simp only [execOp]
  rw [show (parts.toArray.map fun (i, x) => (i, a.eval x)) = pv.toArray by
    rw [← hm]; simp]
  simp [this]
/-- make([]T, n). -/
theorem Run.makeSlice {t e sz bytes n : Nat} {x y : Operand} {kl kc : IntKind} {m m' : Int} {z : Value} (hk : eff k = true) (hi : ops[i]? = some ⟨some d, .makeSlice t x y, ty, pos, af, g⟩) (E : EnvD dfs N env a) (S : St F w0 w hp) (hw : wnt ops env g = true) (hN : Nat.blt d N = true)
    (hx : ev env x = some (.int kl m)) (hy : ev env y = some (.int kc m')) (hm : m = (n : Int)) (hm' : m' = (n : Int)) (he : P.underlying t = some (.slice e)) (hI : (P.info? e).map (fun i => (i.zero, i.size, i.bytes)) = some (some z, sz, bytes)) (hn : bytes * n ≤ 281474976710656) (h63 : n ≤ 140737488355328)
    (K : ∀ b w' a', EnvD dfs N ((d, .slice (some ⟨b, 0, none⟩) n n) :: env) a' → St F w0 w' (.row (.slice (some ⟨b, 0, none⟩) n n) e sz n (madeCells z.cells (n * sz)).toList :: hp) → Bel w w' → Run P ops Q r a' w') : Run P ops Q ((i, k) :: r) a w := by
  obtain ⟨inf, hinf, hI⟩ := Option.map_eq_some_iff.1 hI
  simp only [Prod.mk.injEq] at hI
  obtain ⟨hz, hsz, hby⟩ := hI
  subst hm hm' hsz hby
  have h63' : n ≤ maxLen := by unfold maxLen; omega
  obtain ⟨w1, hr, hown, hgr⟩ := run_make_full (P := P) w 0 t e inf z inf.size he hinf hz rfl kl kc n hn h63' (Nat.zero_le _)
  have hb : Bel w w1 := ⟨hgr.os, hgr.tape, hgr.output, hgr.size, fun j hj => hgr.block j hj (by simp)⟩
  refine Run.ef hk hi E hw hN (v := .slice (some ⟨w.heap.size, 0, none⟩) n n) (w1 := w1) ?_ (fun _ => hb) (fun a' E' => K _ _ a' E' ?_ hb)
  · simp [execOp, E.eval hx, E.eval hy, hr]
  · have s := St.call (A := []) (A' := [.row (.slice (some ⟨w.heap.size, 0, none⟩) n n) e inf.size n (madeCells z.cells (n * inf.size)).toList]) (R := hp) (by simpa using S)
      ⟨Chg.of hb _, fun c hc => by simp at hc; subst hc; exact hown, by simp [fps, Ck.fp, Value.ownBlock], fun b hb' => .inr (by simp [fps, Ck.fp, Value.ownBlock] at hb'; omega)⟩
    exact s

/-! ### 8. Stores -/
theorem run_storeVar_cells {t : Nat} {b o e : Nat} {cur : List Value} {w : World} {v : Value} (news : List Value) (hv : v.cells = news.toArray) (hz : (P.info? t).map (·.size) = some news.length) (hg : w.heap[b]? = some (.cells cur.toArray e (0, 0)))
    (hfit : o + news.length ≤ cur.length) (h1 : ∀ x ∈ news, x.oneCell' = true) : (storeVar t ⟨b, o, none⟩ v).run P w = .ok () (w.setRow b (cur.take o ++ news ++ cur.drop (o + news.length)).toArray) := by
  obtain ⟨inf, hinf, hs⟩ := Option.map_eq_some_iff.1 hz
  have hst := run_storeCells_at P b o e news 0 cur.toArray w hg (by simpa using hfit) h1
  simp only [Nat.add_zero] at hst
  simp [storeVar, sizeOf, typeInfo, hinf, hs, hv, hst]
theorem St.setObjN {o : Nat} {b : Nat} {cs news : List Value} (s : St F w0 w hp) (i : Nat) (hi : hp[i]? = some (.obj b ty cs)) (hfit : o + news.length ≤ cs.length) :
    St F w0 (w.setRow b (cs.take o ++ news ++ cs.drop (o + news.length)).toArray) (hp.set i (.obj b ty (cs.take o ++ news ++ cs.drop (o + news.length)))) := by
  refine s.turn i hi ?_ ?_ (fun k hk => .inl hk) (by simp [Ck.fp])
  · exact ⟨rfl, rfl, rfl, by simp [World.setRow], fun k _ hk => setRow_other w b k _ (by simpa [Ck.fp] using hk)⟩
  · exact setRow_heap w b _ _ ty _ (s.obj i hi)
/-- A store into a block that is known whole. -/
theorem Run.store {t : Nat} {x y : Operand} {b o e : Nat} {cs news cs' : List Value} {vy : Value} (ci : Nat) {hp' : List Ck} (hi : ops[i]? = some ⟨none, .store t x y, ty, pos, af, g⟩) (E : EnvD dfs N env a) (S : St F w0 w hp) (hw : wnt ops env g = true)
    (hx : ev env x = some (.pointer (some ⟨b, o, none⟩))) (hy : ev env y = some vy) (hci : hp[ci]? = some (.obj b e cs)) (hv : vy.cells = news.toArray) (hz : (P.info? t).map (·.size) = some news.length) (hfit : Nat.ble (o + news.length) cs.length = true)
    (h1 : (news.all (·.oneCell')) = true) (hcs : cs.take o ++ news ++ cs.drop (o + news.length) = cs') (hhp : hp.set ci (.obj b e cs') = hp') (K : ∀ w', St F w0 w' hp' → Run P ops Q r a w') : Run P ops Q ((i, .l) :: r) a w := by
  have hfit' := Nat.le_of_ble_eq_true hfit
  refine Run.wr hi E hw (w1 := w.setRow b (cs.take o ++ news ++ cs.drop (o + news.length)).toArray) ?_ (K _ ?_)
  · simp [execOp, E.eval hx, E.eval hy, Instr.storeAt, Instr.sureAddr, run_storeVar_cells (P := P) (t := t) (o := o) news hv hz (S.obj ci hci) hfit' (fun x hx => List.all_eq_true.1 h1 x hx)]
  · subst hhp hcs
    exact S.setObjN ci hci hfit'
/-- A store of one cell into a slice of the call's own. -/
theorem Run.storeRow {t : Nat} {x y : Operand} {b o e sz n c : Nat} {xs : List Value} {vy : Value} (ci : Nat) {hp' : List Ck} (hi : ops[i]? = some ⟨none, .store t x y, ty, pos, af, g⟩) (E : EnvD dfs N env a) (S : St F w0 w hp) (hw : wnt ops env g = true)
    (hx : ev env x = some (.pointer (some ⟨b, o, none⟩))) (hy : ev env y = some vy) (hci : hp[ci]? = some (.row (.slice (some ⟨b, 0, none⟩) n c) e sz n xs)) (ho : o < xs.length) (hz : (P.info? t).map (·.size) = some 1)
    (h1 : vy.oneCell' = true) (hhp : hp.set ci (.row (.slice (some ⟨b, 0, none⟩) n c) e sz n (xs.set o vy)) = hp') (K : ∀ w', St F w0 w' hp' → Run P ops Q r a w') : Run P ops Q ((i, .l) :: r) a w := by
  have hrow := S.row ci hci
  have hcell : w.cell? ⟨b, o, none⟩ = some xs[o] := S.rowCell ci hci (List.getElem?_eq_getElem ho)
  have hfr := World.ownsRow.frozenAt hrow o
  obtain ⟨inf, hinf, hs⟩ := Option.map_eq_some_iff.1 hz
  have hv : vy.cells = #[vy] := by cases vy <;> first | rfl | cases h1
  refine Run.wr hi E hw (w1 := w.setCell ⟨b, o, none⟩ vy) ?_ (K _ ?_)
  · have hst : (Go.store (⟨b, o, none⟩ : Addr) vy).run P w = .ok () (w.setCell ⟨b, o, none⟩ vy) := by
      rw [run_store P w _ vy _ h1, hcell]; simp [hfr]
    have ha : (⟨b, o, none⟩ : Addr).add 0 = ⟨b, o, none⟩ := rfl
    simp [execOp, E.eval hx, E.eval hy, Instr.storeAt, Instr.sureAddr, storeVar, sizeOf, typeInfo, hinf, hs, hv, storeCells, ha, hst]
  · subst hhp
    exact S.setRow ci o vy hci

/-! ### 9. append -/
theorem ownsRow_slice {w : World} {base e sz n : Nat} {v : Value} {xs : List Value} (h : w.ownsRow base e sz v n xs) : ∃ A c, v = .slice A n c ∧ ((A = none ∧ c = 0 ∧ n = 0) ∨ ∃ b, A = some ⟨b, 0, none⟩ ∧ n ≤ c) := by
  rcases h.2 with ⟨rfl, rfl⟩ | ⟨g, cap, cur, rfl, _, _, hnc, _⟩
  · exact ⟨none, 0, rfl, .inl ⟨rfl, rfl, rfl⟩⟩
  · exact ⟨_, _, rfl, .inr ⟨g, rfl, hnc⟩⟩
theorem St.rowAddr (s : St F w0 w hp) (i : Nat) {A : Option Addr} {n c e sz : Nat} {xs : List Value} (hi : hp[i]? = some (.row (.slice A n c) e sz n xs)) (h0 : 0 < n) : ∃ b, A = some ⟨b, 0, none⟩ := by
  obtain ⟨A', c', hv, h⟩ := ownsRow_slice (s.row i hi)
  cases hv
  rcases h with ⟨_, _, rfl⟩ | ⟨b, rfl, _⟩
  · omega
  · exact ⟨b, rfl⟩
theorem St.rowLen (s : St F w0 w hp) (i : Nat) {v : Value} {n e sz : Nat} {xs : List Value} (hi : hp[i]? = some (.row v e sz n xs)) : xs.length = n * sz := (s.row i hi).1
theorem St.rowCap (s : St F w0 w hp) (i : Nat) {A : Option Addr} {n c e sz : Nat} {xs : List Value} (hi : hp[i]? = some (.row (.slice A n c) e sz n xs)) : n ≤ c := by
  obtain ⟨A', c', hv, h⟩ := ownsRow_slice (s.row i hi)
  cases hv
  rcases h with ⟨_, rfl, rfl⟩ | ⟨b, rfl, h⟩
  · exact Nat.le_refl _
  · exact h
theorem St.turnAppend {v v' : Value} {e sz n n' : Nat} {xs xs' : List Value} {w' : World} (s : St F w0 w hp) (i : Nat) (hi : hp[i]? = some (.row v e sz n xs)) (hown : w'.ownsRow 0 e sz v' n' xs') (hg : w.grownBy w' v.ownBlock) (hat : v'.ownBlock = v.ownBlock ∨ v'.ownBlock = some w.heap.size) :
    St F w0 w' (hp.set i (.row v' e sz n' xs')) := by
  refine s.turn i hi (Chg.grown hg) hown (fun b hb => ?_) ?_
  · simp only [Ck.fp, Option.mem_toList] at hb ⊢
    rcases hat with h | h
    · exact .inl (h ▸ hb)
    · rw [h] at hb; exact .inr (by simpa using hb.symm)
  · simp only [Ck.fp]
    cases v'.ownBlock <;> simp
/-- append(s, x...) onto a slice of the call's own; what is appended lies wherever it lies. -/
theorem Run.append {t e sz bytes n m c : Nat} {x y : Operand} {z v : Value} {xs news : List Value} {ad : Addr} (ci : Nat) {nm : Nat} (hi : ops[i]? = some ⟨some d, .call ⟨.builtin .append, #[x, y], #[t, t]⟩, ty, pos, af, g⟩) (E : EnvD dfs N env a) (S : St F w0 w hp) (hw : wnt ops env g = true) (hN : Nat.blt d N = true)
    (hx : ev env x = some v) (hy : ev env y = some (.slice (some ad) m c)) (hci : hp[ci]? = some (.row v e sz n xs)) (he : P.underlying t = some (.slice e)) (hI : (P.info? e).map (fun i => (i.zero, i.size, i.bytes)) = some (some z, sz, bytes)) (hzs : Nat.beq z.cells.size sz = true) (hs0 : Nat.blt 0 sz = true)
    (hl : news.length = m * sz) (hnews : ∀ j u, news[j]? = some u → w.cell? (ad.add j) = some u) (h1 : ∀ u ∈ news, u.oneCell' = true) (hnm : n + m = nm) (hroom : nm * bytes ≤ 140737488355328) (hmax : nm ≤ 140737488355328)
    (K : ∀ A c' w' a', EnvD dfs N ((d, .slice A nm c') :: env) a' → St F w0 w' (hp.set ci (.row (.slice A nm c') e sz nm (xs ++ news))) → Run P ops Q r a' w') : Run P ops Q ((i, .l) :: r) a w := by
  obtain ⟨inf, hinf, hI⟩ := Option.map_eq_some_iff.1 hI
  simp only [Prod.mk.injEq] at hI
  obtain ⟨hz, hsz, hby⟩ := hI
  subst hnm
  have h63 : n + m ≤ maxLen := by unfold maxLen; omega
  obtain ⟨v', w', hr, hown, hg, _, hat⟩ := run_append_own_at (P := P) w 0 t ty e inf z sz bytes he hinf hz hsz hby (Nat.eq_of_beq_eq_true hzs) (by simpa [Nat.blt_eq] using hs0) v n xs (S.row ci hci) ad m c news hl hnews h1 h63 hroom (Nat.zero_le _)
  have hst := S.turnAppend ci hci hown hg hat
  obtain ⟨A, c', rfl, _⟩ := ownsRow_slice hown
  refine Run.ef rfl hi E hw hN (v := .slice A (n + m) c') (w1 := w') ?_ (fun h => by cases h) (fun a' E' => K A c' w' a' E' hst)
  simp only [execOp, resolve, invoke, builtin, Sem.run_bind, Sem.run_pure, Result.andThen_ok, List.map_toArray, List.map_cons, List.map_nil, E.eval hx, E.eval hy, hr]
/-- append(s, nil...). -/
theorem Run.appendNil {t e sz n bytes : Nat} {x y : Operand} {z : Value} {v : Value} {xs : List Value} (ci : Nat) (hi : ops[i]? = some ⟨some d, .call ⟨.builtin .append, #[x, y], #[t, t]⟩, ty, pos, af, g⟩) (E : EnvD dfs N env a) (S : St F w0 w hp) (hw : wnt ops env g = true) (hN : Nat.blt d N = true)
    (hx : ev env x = some v) (hy : ev env y = some (.slice none 0 0)) (hci : hp[ci]? = some (.row v e sz n xs)) (he : P.underlying t = some (.slice e)) (hI : (P.info? e).map (fun i => (i.zero, i.size, i.bytes)) = some (some z, sz, bytes))
    (K : ∀ a', EnvD dfs N ((d, v) :: env) a' → Run P ops Q r a' w) : Run P ops Q ((i, .l) :: r) a w := by
  obtain ⟨inf, hinf, hI⟩ := Option.map_eq_some_iff.1 hI
  simp only [Prod.mk.injEq] at hI
  obtain ⟨_, hsz, _⟩ := hI
  have hr := run_append_owned_none (P := P) w 0 t ty e inf sz he hinf v n xs (S.row ci hci)
  refine Run.ef rfl hi E hw hN (v := v) (w1 := w) ?_ (fun h => by cases h) K
  simp only [execOp, resolve, invoke, builtin, Sem.run_bind, Sem.run_pure, Result.andThen_ok, List.map_toArray, List.map_cons, List.map_nil, E.eval hx, E.eval hy, hr]
/-- A nil slice is owned by whoever wants it. -/
theorem St.addNil (s : St F w0 w hp) (e sz : Nat) : St F w0 w (.row (.slice none 0 0) e sz 0 [] :: hp) :=
  St.call (A := []) (A' := [.row (.slice none 0 0) e sz 0 []]) (R := hp) (by simpa using s)
    ⟨Chg.refl _ _, fun c hc => by simp at hc; subst hc; exact World.ownsRow_nil w 0 e sz, by simp [fps, Ck.fp, Value.ownBlock], fun b hb => by simp [fps, Ck.fp, Value.ownBlock] at hb⟩
/-- A slice literal is owned. -/
theorem St.objRow (s : St F w0 w hp) (i : Nat) {b e sz n : Nat} {cs : List Value} {hp' : List Ck} (hi : hp[i]? = some (.obj b e cs)) (hn : cs.length = n * sz) (hm : n ≤ 140737488355328) (hhp : hp.set i (.row (.slice (some ⟨b, 0, none⟩) n n) e sz n cs) = hp') : St F w0 w hp' := by
  subst hhp
  refine s.turn i hi (Chg.refl _ _) ⟨hn, .inr ⟨b, n, cs.toArray, rfl, Nat.zero_le _, s.obj i hi, Nat.le_refl _, by unfold maxLen; omega, by simpa using hn, by simp [← hn]⟩⟩ (fun k hk => .inl (by simpa [Ck.fp, Value.ownBlock] using hk)) (by simp [Ck.fp, Value.ownBlock])
/-- Its head is owned. -/
theorem St.rowTake (s : St F w0 w hp) (i m : Nat) {A : Option Addr} {n c e sz : Nat} {xs : List Value} {hp' : List Ck} (hi : hp[i]? = some (.row (.slice A n c) e sz n xs)) (hm : m ≤ n) (hhp : hp.set i (.row (.slice A m c) e sz m (xs.take (m * sz))) = hp') : St F w0 w hp' := by
  subst hhp
  have h := s.row i hi
  have hfp : (Ck.row (.slice A m c) e sz m (xs.take (m * sz))).fp = (Ck.row (.slice A n c) e sz n xs).fp := by cases A <;> rfl
  refine s.turn i hi (Chg.refl _ _) ?_ (fun k hk => .inl (hfp ▸ hk)) (by simp only [Ck.fp]; cases (Value.slice A m c).ownBlock <;> simp)
  refine ⟨by rw [List.length_take, h.1]; exact Nat.min_eq_left (Nat.mul_le_mul_right _ hm), ?_⟩
  rcases h.2 with ⟨hv, rfl⟩ | ⟨g, cap, cur, hv, hb, hg, hnc, hcm, hcs, htake⟩
  · cases hv
    obtain rfl : m = 0 := by omega
    exact .inl ⟨rfl, rfl⟩
  · cases hv
    refine .inr ⟨g, c, cur, rfl, hb, hg, by omega, hcm, hcs, ?_⟩
    rw [← htake, List.take_take, Nat.min_eq_left (Nat.mul_le_mul_right _ hm)]

/-! ### 10. Cutting -/
theorem Run.sliceH {x h : Operand} {t e sz n c q : Nat} {A : Option Addr} {kd : IntKind} {m : Int} (hi : ops[i]? = some ⟨some d, .slice t x none (some h) none, ty, pos, af, g⟩) (E : EnvD dfs N env a) (hw : wnt ops env g = true) (hN : Nat.blt d N = true) (hx : ev env x = some (.slice A n c)) (hh : ev env h = some (.int kd m))
    (ht : P.underlying t = some (.slice e)) (hz : (P.info? e).map (·.size) = some sz) (hb : 0 ≤ m ∧ m ≤ (c : Int)) (hq : m.toNat = q) (K : ∀ a', EnvD dfs N ((d, .slice A q c) :: env) a' → Run P ops Q r a' w) : Run P ops Q ((i, k) :: r) a w :=
  Run.val hi E hw hN (fun w => by
    subst hq
    obtain ⟨inf, hinf, rfl⟩ := Option.map_eq_some_iff.1 hz
    have ha : (if c = 0 then A else A.map (·.add 0)) = A := by split <;> cases A <;> rfl
    simp [execOp, E.eval hx, E.eval hh, Instr.sliceAt, Instr.slice, run_underlying ht, Instr.sliceBounds, Instr.sliceBound, asIntOf, hb, sizeOf, typeInfo, hinf]
    rcases A with _ | A <;> intro _ <;> rfl) K
theorem Run.sliceL {x l : Operand} {t e sz n c q : Nat} {A : Option Addr} {kd : IntKind} {m : Int} (hi : ops[i]? = some ⟨some d, .slice t x (some l) none none, ty, pos, af, g⟩) (E : EnvD dfs N env a) (hw : wnt ops env g = true) (hN : Nat.blt d N = true) (hx : ev env x = some (.slice A n c)) (hl : ev env l = some (.int kd m))
    (ht : P.underlying t = some (.slice e)) (hz : (P.info? e).map (·.size) = some sz) (hb : 0 ≤ m ∧ m ≤ (n : Int)) (hq : m.toNat = q) (K : ∀ a', EnvD dfs N ((d, .slice (if c = q then A else A.map (·.add (q * sz))) (n - q) (c - q)) :: env) a' → Run P ops Q r a' w) : Run P ops Q ((i, k) :: r) a w :=
  Run.val hi E hw hN (fun w => by
    subst hq
    obtain ⟨inf, hinf, rfl⟩ := Option.map_eq_some_iff.1 hz
    simp [execOp, E.eval hx, E.eval hl, Instr.sliceAt, Instr.slice, run_underlying ht, Instr.sliceBounds, Instr.sliceBound, asIntOf, hb, sizeOf, typeInfo, hinf]) K
theorem Run.sliceLH {x l h : Operand} {t e sz n c ql qh : Nat} {A : Option Addr} {kd kh : IntKind} {m m' : Int} (hi : ops[i]? = some ⟨some d, .slice t x (some l) (some h) none, ty, pos, af, g⟩) (E : EnvD dfs N env a) (hw : wnt ops env g = true) (hN : Nat.blt d N = true) (hx : ev env x = some (.slice A n c)) (hl : ev env l = some (.int kd m)) (hh : ev env h = some (.int kh m'))
    (ht : P.underlying t = some (.slice e)) (hz : (P.info? e).map (·.size) = some sz) (hb : 0 ≤ m ∧ m ≤ m' ∧ m' ≤ (c : Int)) (hql : m.toNat = ql) (hqh : m'.toNat = qh) (K : ∀ a', EnvD dfs N ((d, .slice (if c = ql then A else A.map (·.add (ql * sz))) (qh - ql) (c - ql)) :: env) a' → Run P ops Q r a' w) : Run P ops Q ((i, k) :: r) a w :=
  Run.val hi E hw hN (fun w => by
    subst hql hqh
    obtain ⟨inf, hinf, rfl⟩ := Option.map_eq_some_iff.1 hz
    have e1 : (m'.toNat : Int) = m' := Int.toNat_of_nonneg (by omega)
    have e2 : 0 ≤ m' := by omega
    simp [execOp, E.eval hx, E.eval hl, E.eval hh, Instr.sliceAt, Instr.slice, run_underlying ht, Instr.sliceBounds, Instr.sliceBound, asIntOf, hb, e1, e2, sizeOf, typeInfo, hinf]) K
end

/-! ### 11. The code around the regions -/
section
variable {P : Program} {Q : Exit → Act → World → Prop} {dfs : List Deferred} {N : Nat} {env : List (Nat × Value)} {a : Act} {w : World}
theorem cond_T {c : Operand} {x y : Code} (E : EnvD dfs N env a) (hc : ev env c = some (.bool true)) (h : x.wp P Q a w) : (Code.cond c x y).wp P Q a w := wp_cond_true (E.eval hc) h
theorem cond_F {c : Operand} {x y : Code} (E : EnvD dfs N env a) (hc : ev env c = some (.bool false)) (h : y.wp P Q a w) : (Code.cond c x y).wp P Q a w := wp_cond_false (E.eval hc) h
theorem ret1 {fn : Func} {R : Ending → World → Prop} {t : Nat} {v : Value} (E : EnvD [] N env a) (hr : fn.results = #[.tmp t]) (h : look env t = some v) (hR : R (.returned v) w) : bodyPost P fn R .ret a w :=
  bodyPost_ret ((results_tmp hr _ _ _).trans (by rw [E.slot t v h])) E.defers hR
theorem ret2 {fn : Func} {R : Ending → World → Prop} {t s : Nat} {v u : Value} (E : EnvD [] N env a) (hr : fn.results = #[.tmp t, .tmp s]) (h : look env t = some v) (h' : look env s = some u) (hR : R (.returned (.tuple #[v, u])) w) : bodyPost P fn R .ret a w :=
  bodyPost_ret ((results_tmp2 hr _ _ _).trans (by rw [E.slot t v h, E.slot s u h'])) E.defers hR
theorem ret0 {fn : Func} {R : Ending → World → Prop} (E : EnvD [] N env a) (hr : fn.results = #[]) (hR : R (.returned (.tuple #[])) w) : bodyPost P fn R .normal a w :=
  bodyPost_end (results_none hr _ _ _) E.defers hR
theorem ret0' {fn : Func} {R : Ending → World → Prop} (E : EnvD [] N env a) (hr : fn.results = #[]) (hR : R (.returned (.tuple #[])) w) : bodyPost P fn R .ret a w :=
  bodyPost_ret (results_none hr _ _ _) E.defers hR
/-- Any results, told one by one: (a slot) or (a cell, its place and what it holds). -/
inductive ResV (P : Program) (a : Act) (w : World) : List ResultVar → List Value → Prop
  | nil : ResV P a w [] []
  | tmp {t : Nat} {v : Value} {rs : List ResultVar} {vs : List Value} (h : a.tmps.getD t undef = v) (hr : ResV P a w rs vs) : ResV P a w (.tmp t :: rs) (v :: vs)
  | cell {t ty : Nat} {p : Addr} {v : Value} {rs : List ResultVar} {vs : List Value} (h : a.tmps.getD t undef = .pointer (some p)) (hl : (loadVar ty p).run P w = .ok v w) (hr : ResV P a w rs vs) : ResV P a w (.cell t ty :: rs) (v :: vs)
theorem resV_run {rs : List ResultVar} {vs : List Value} (h : ResV P a w rs vs) (f : ResultVar → Sem Value) (h1 : ∀ t, f (.tmp t) = pure (a.tmps.getD t undef)) (h2 : ∀ p t, f (.cell p t) = (asAddr (a.tmps.getD p undef) >>= fun q => loadVar t q)) : (rs.mapM f).run P w = .ok vs w := by
  induction h with
  | nil => simp
  | tmp h _ ih =>
    rw [List.mapM_cons, h1, h]
    simp only [Sem.run_bind, Sem.run_pure, Result.andThen_ok, ih]
  | cell h hl _ ih =>
    rw [List.mapM_cons, h2, h]
    simp only [asAddr, Sem.run_bind, Sem.run_pure, Result.andThen_ok, hl, ih]
theorem retN {fn : Func} {R : Ending → World → Prop} {rs : List ResultVar} {vs : List Value} {v : Value} (E : EnvD [] N env a) (hr : fn.results = rs.toArray) (h : ResV P a w rs vs) (hv : (if h : vs.toArray.size = 1 then vs.toArray[0] else .tuple vs.toArray) = v) (hR : R (.returned v) w) : bodyPost P fn R .ret a w := by
  refine bodyPost_ret ?_ E.defers hR
  unfold results
  rw [hr]
  simp only [List.mapM_toArray, Sem.run_bind, Sem.run_map]
  rw [resV_run h _ (fun _ => rfl) (fun _ _ => rfl)]
  simp only [Result.andThen_ok, Sem.run_pure]
  rw [hv]
/-! where a walk goes on -/
theorem then_n {next : Act → World → Prop} (h : next a w) : Exit.then next Q .normal a w := h
theorem blk_n {id : Nat} (h : Q .normal a w) : Exit.inBlock id Q .normal a w := h
theorem blk_x {id : Nat} (h : Q .normal a w) : Exit.inBlock id Q (.exit id) a w := by simpa [Exit.inBlock] using h
theorem blk_o {id id' : Nat} (hn : Nat.beq id' id = false) (h : Q (.exit id') a w) : Exit.inBlock id Q (.exit id') a w := by
  have : ¬ id' = id := fun e => by subst e; simp at hn
  simpa [Exit.inBlock, this] using h
theorem then_x {id : Nat} {next : Act → World → Prop} (h : Q (.exit id) a w) : Exit.then next Q (.exit id) a w := h
theorem then_r {next : Act → World → Prop} (h : Q .ret a w) : Exit.then next Q .ret a w := h
theorem blk_r {id : Nat} (h : Q .ret a w) : Exit.inBlock id Q .ret a w := h
def Has (f : Nat → Option Value) : List (Nat × Value) → Prop
  | [] => True
  | p :: r => f p.1 = some p.2 ∧ Has f r
theorem Has.all {f : Nat → Option Value} : ∀ {l : List (Nat × Value)}, Has f l → ∀ p ∈ l, f p.1 = some p.2
  | [], _, _, h => by cases h
  | _ :: _, h, p, hp => by
    rcases List.mem_cons.1 hp with rfl | hp
    · exact h.1
    · exact h.2.all p hp
theorem EnvD.keeps (E : EnvD dfs N env a) (env' : List (Nat × Value)) (h : Has (look env) env') : EnvD dfs N env' a := E.keep env' h.all
def HoldsAll (w : World) : List Ck → Prop
  | [] => True
  | c :: r => c.holds w ∧ HoldsAll w r
theorem HoldsAll.all {w : World} : ∀ {l : List Ck}, HoldsAll w l → ∀ c ∈ l, c.holds w
  | [], _, _, h => by cases h
  | _ :: _, h, c, hc => by
    rcases List.mem_cons.1 hc with rfl | hc
    · exact h.1
    · exact h.2.all c hc
/-- What a function is lent. -/
structure Own (w : World) (hp : List Ck) : Prop where
  all : ∀ c ∈ hp, c.holds w
  nodup : (fps hp).Nodup
theorem Own.st {w : World} {hp : List Ck} (h : Own w hp) : St (fps hp) w w hp := St.start hp h.all h.nodup
theorem St.own {F : List Nat} {w0 w : World} {hp : List Ck} (s : St F w0 w hp) : Own w hp := ⟨s.all, s.nodup⟩
theorem St.ownL {F : List Nat} {w0 w : World} {A R : List Ck} (s : St F w0 w (A ++ R)) : Own w A := by
  have h : fps (A ++ R) = fps A ++ fps R := by simp [fps]
  refine ⟨fun c hc => s.all c (List.mem_append_left _ hc), ?_⟩
  have := s.nodup
  rw [h] at this
  exact (List.nodup_append.1 this).1
/-- A quiet call: nothing that was there is turned. -/
theorem St.quiet {F : List Nat} {w0 w w' : World} {hp : List Ck} (s : St F w0 w hp) (h : Bel w w') : St F w0 w' hp := s.bel h
/-- A region that draws its order, over what is owned. -/
theorem region_drawS {ops : Array Oper} {F : List Nat} {w0 : World} {hp : List Ck} {id n : Nat} (s : List (Nat × Kind)) (W : List Nat) (S : St F w0 w hp) (hm : P.follows .mixedOrders = true) (hn : ops.size = n) (hl : Nat.beq s.length n = true)
    (hk : (wOk ops n W && Region.noSelect ops && chk ops n W s 0) = true) (hQ : ∀ c a d v w, Q (.panic c) (Act.put a (some d) v) w → Q (.panic c) a w)
    (h : ∀ w', St F w0 w' hp → Bel w w' → Run P ops Q s a w') : (Code.region id ops true).wp P Q a w :=
  region_draw s W hm hn hl hk hQ (h _ S.drew (Below.refl _ _).drew)
theorem objAll {F : List Nat} {w0 w : World} {hp : List Ck} (s : St F w0 w hp) (i : Nat) {b : Nat} {ty : TypeId} {cs : List Value} (hi : hp[i]? = some (.obj b ty cs)) : ∀ j v, cs[j]? = some v → w.cell? ((⟨b, 0, none⟩ : Addr).add j) = some v := by
  intro j v h
  have : (⟨b, 0, none⟩ : Addr).add j = ⟨b, j, none⟩ := by unfold Addr.add; split <;> simp_all
  rw [this]
  exact s.objCell i j hi h
theorem objNews {F : List Nat} {w0 w : World} {hp : List Ck} (s : St F w0 w hp) (i : Nat) {b : Nat} {ty : TypeId} {cs : List Value} (hi : hp[i]? = some (.obj b ty cs)) : ∀ j u, cs[j]? = some u → w.cell? ((⟨b, 0, none⟩ : Addr).add j) = some u := objAll s i hi
theorem objPart {F : List Nat} {w0 w : World} {hp : List Ck} (s : St F w0 w hp) (i o : Nat) (news : List Value) {b : Nat} {ty : TypeId} {cs : List Value} (hi : hp[i]? = some (.obj b ty cs)) (hn : (cs.drop o).take news.length = news) : ∀ j v, news[j]? = some v → w.cell? ((⟨b, o, none⟩ : Addr).add j) = some v := by
  intro j v h
  have : (⟨b, o, none⟩ : Addr).add j = ⟨b, o + j, none⟩ := by unfold Addr.add; split <;> simp_all
  rw [this]
  refine s.objCell i (o + j) hi ?_
  rw [← hn, List.getElem?_take] at h
  split at h
  · simpa using h
  · cases h
theorem rowAt {F : List Nat} {w0 w : World} {hp : List Ck} (s : St F w0 w hp) (i o : Nat) (news : List Value) {b n c e sz : Nat} {xs : List Value} (hi : hp[i]? = some (.row (.slice (some ⟨b, 0, none⟩) n c) e sz n xs)) (hn : ∀ j v, news[j]? = some v → xs[o + j]? = some v) : ∀ j v, news[j]? = some v → w.cell? ((⟨b, o, none⟩ : Addr).add j) = some v := by
  intro j v h
  have : (⟨b, o, none⟩ : Addr).add j = ⟨b, o + j, none⟩ := by unfold Addr.add; split <;> simp_all
  rw [this]
  exact s.rowCell i hi (hn j v h)
/-! an index' place -/
theorem add_at (b o j : Nat) : (⟨b, o, none⟩ : Addr).add j = ⟨b, o + j, none⟩ := by
  unfold Addr.add
  split
  · simp_all
  · rfl
theorem ix_at {b m' sz o : Nat} {m : Int} (h : m = (m' : Int)) (ho : m' * sz = o) : (⟨b, 0, none⟩ : Addr).add (m.toNat * sz) = ⟨b, o, none⟩ := by
  subst h ho
  rw [add_at]
  simp
theorem i64_ok {n : Int} (h : -9223372036854775808 ≤ n ∧ n ≤ 9223372036854775807) : IntKind.i64.wrap n = n := IntWalk.i64_in n h
theorem u64_ok {n : Int} (h : 0 ≤ n ∧ n ≤ 18446744073709551615) : IntKind.u64.wrap n = n := IntWalk.u64_in n h
theorem u8_ok {n : Int} (h : 0 ≤ n ∧ n ≤ 255) : IntKind.u8.wrap n = n := IntWalk.u8_in n h
theorem max_l {m n : Int} (h : n ≤ m) : (if n > m then n else m) = m := if_neg (by omega)
theorem max_r {m n : Int} (h : m < n) : (if n > m then n else m) = n := if_pos h
theorem min_l {m n : Int} (h : m ≤ n) : (if n < m then n else m) = m := if_neg (by omega)
theorem min_r {m n : Int} (h : n < m) : (if n < m then n else m) = n := if_pos h
theorem fn_start {f : FuncId} {fn : Func} {c : Code} {args : List Value} {R : Ending → World → Prop} (hf : P.funcs[f]? = some fn) (hb : fn.body = some c) (N : Nat) (hN : Nat.beq fn.ntmps N = true) (ha : Nat.ble args.length N = true)
    (env : List (Nat × Value)) (henv : Has (args[·]?) env) (h : ∀ a, Env N env a → c.wp P (bodyPost P fn R) a w) : Calls P f args.toArray w R := by
  refine calls_of_wp hf hb (h _ ?_)
  have e1 := Nat.eq_of_beq_eq_true hN
  have e2 := Nat.le_of_ble_eq_true ha
  rw [e1]
  simp only [List.size_toArray]
  exact Env.start args (N - args.length) N env (by omega) henv.all
end
end Go.Proofs.Ytlcglefbhlhcpaa.K
