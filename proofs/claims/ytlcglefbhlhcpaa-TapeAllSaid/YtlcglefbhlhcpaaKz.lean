/- A range over an iterator that keeps cells of its own between two rounds, and turns them. -/
import Derived.Test.YtlcglefbhlhcpaaKu
namespace Go.Proofs.Ytlcglefbhlhcpaa.K
open Go.RowKit Go.Shelf
set_option linter.unusedVariables false
theorem Chg.putObj (W : World) (l : Nat) (o : Obj) : Chg [l] W (W.putObj l o) :=
  ⟨rfl, rfl, rfl, by simp, fun k _ hk => World.putObj_heap_other (by simpa using hk)⟩
theorem Chg.ofBel {W W' : World} (h : Bel W W') : Chg [] W W' := Chg.of h []
/-- It stands while no block below B is turned. -/
def AbC {β : Type} (B : Nat) (J : β → World → Prop) : Prop := ∀ s X Y (R : List Nat), J s X → Chg R X Y → (∀ r ∈ R, B ≤ r) → J s Y
theorem AbC.putObj {β : Type} {B : Nat} {J : β → World → Prop} (h : AbC B J) {s : β} {W : World} {l : Nat} (o : Obj) (hs : J s W) (hB : B ≤ l) : J s (W.putObj l o) :=
  h s _ _ [l] hs (Chg.putObj W l o) (fun r hr => by rw [List.mem_singleton.1 hr]; exact hB)
theorem AbC.bel {β : Type} {B : Nat} {J : β → World → Prop} (h : AbC B J) {s : β} {W W' : World} (hs : J s W) (hb : Bel W W') : J s W' := h s _ _ [] hs (Chg.ofBel hb) (fun r hr => by cases hr)
/-- All cells lie as they lay, but for some blocks. -/
def Kc (F0 : List Nat) (X Y : World) : Prop := X.heap.size ≤ Y.heap.size ∧ ∀ k o, X.heap[k]? = some o → o.isCells = true → k ∉ F0 → Y.heap[k]? = some o
theorem Kc.refl (F0 : List Nat) (X : World) : Kc F0 X X := ⟨Nat.le_refl _, fun _ _ h _ _ => h⟩
theorem Kc.trans {F0 : List Nat} {X Y Z : World} (h : Kc F0 X Y) (k : Kc F0 Y Z) : Kc F0 X Z := ⟨Nat.le_trans h.1 k.1, fun i o h1 h2 h3 => k.2 i o (h.2 i o h1 h2 h3) h2 h3⟩
theorem Kc.putObj {F0 : List Nat} (W : World) (l : Nat) (o o' : Obj) (h : W.heap[l]? = some o) (hc : o.isCells = false) : Kc F0 W (W.putObj l o') := by
  refine ⟨by simp, fun k x h1 h2 _ => ?_⟩
  by_cases e : k = l
  · subst e; rw [h1] at h; cases h; rw [h2] at hc; cases hc
  · exact (World.putObj_heap_other e).trans h1
theorem Kc.ofChg {F0 R : List Nat} {X Y : World} (h : Chg R X Y) (hR : ∀ r ∈ R, r ∈ F0) : Kc F0 X Y :=
  ⟨h.size, fun k o h1 _ h3 => (h.block k (Array.getElem?_eq_some_iff.1 h1).1 (fun hm => h3 (hR k hm))).trans h1⟩
theorem Kc.holds {F0 : List Nat} {X Y : World} (h : Kc F0 X Y) {c : Ck} (hc : c.holds X) (hF : ∀ k ∈ c.fp, k ∉ F0) : c.holds Y :=
  Ck.local hc (fun k hk => by obtain ⟨o, h1, h2⟩ := Ck.cells hc k hk; rw [h.2 k o h1 h2 (hF k hk), h1])
theorem Kc.all {F0 : List Nat} {X Y : World} (h : Kc F0 X Y) : ∀ {l : List Ck}, HoldsAll X l → (∀ k ∈ fps l, k ∉ F0) → HoldsAll Y l
  | [], _, _ => trivial
  | c :: l, hh, hF => ⟨h.holds hh.1 (fun k hk => hF k (List.mem_flatMap.2 ⟨c, List.mem_cons_self, hk⟩)), h.all hh.2 (fun k hk => hF k (by obtain ⟨d, h1, h2⟩ := List.mem_flatMap.1 hk; exact List.mem_flatMap.2 ⟨d, List.mem_cons_of_mem _ h1, h2⟩))⟩
theorem cell_isCells {w : World} {p : Addr} {v : Value} (h : w.cell? p = some v) : ∃ o, w.heap[p.block]? = some o ∧ o.isCells = true := by
  unfold World.cell? at h
  split at h
  · rename_i hh; exact ⟨_, hh, rfl⟩
  · cases h
theorem Kc.cell {F0 : List Nat} {X Y : World} (h : Kc F0 X Y) {p : Addr} {v : Value} (hc : X.cell? p = some v) (hF : p.block ∉ F0) : Y.cell? p = some v := by
  obtain ⟨o, h1, h2⟩ := cell_isCells hc
  exact (World.cell?_of_block ((h.2 _ o h1 h2 hF).trans h1.symm)).trans hc
theorem Kc.step {F0 R : List Nat} {W X Y : World} (h : Kc F0 W X) (hc : Chg R X Y) (hR : ∀ r ∈ R, W.heap.size ≤ r) : Kc F0 W Y :=
  ⟨Nat.le_trans h.1 hc.size, fun k o h1 h2 h3 => (hc.block k (Array.getElem?_eq_some_iff.1 (h.2 k o h1 h2 h3)).1 (fun m => by have h4 := hR k m; have h5 := (Array.getElem?_eq_some_iff.1 h1).1; omega)).trans (h.2 k o h1 h2 h3)⟩
theorem Kc.own {F0 : List Nat} {X Y : World} (h : Kc F0 X Y) {l : List Ck} (ho : Own X l) (hF : ∀ k ∈ fps l, k ∉ F0) : Own Y l :=
  ⟨fun c hc => h.holds (ho.all c hc) (fun k hk => hF k (List.mem_flatMap.2 ⟨c, hc, hk⟩)), ho.nodup⟩
theorem roCellK {F : List Nat} {w0 w : World} {hp : List Ck} {p : Addr} {v : Value} (h : w0.cell? p = some v) (hb : p.block ∉ F) (s : St F w0 w hp) : w.cell? p = some v := s.chg.cell hb h
theorem Rd.keepsBooks {W : World} {A : Option Addr} {n sz : Nat} {xs : List Value} (h : Rd W A n sz xs) {W' : World} {row : Option Nat} (hg : W.grownBy W' row) (hr : ∀ r, row = some r → ∃ o : Obj, W.heap[r]? = some o ∧ o.isCells = false) : Rd W' A n sz xs :=
  ⟨h.1, fun h0 => by
    obtain ⟨b, o, e, hc⟩ := h.2 h0
    exact ⟨b, o, e, fun j v hj => cell_kept (hc j v hj) hg hr⟩⟩
/-- Owned memory below B stands while no block below B is turned. -/
theorem St.abC {F : List Nat} {w0 X Y : World} {hp : List Ck} {B : Nat} {R : List Nat} (s : St F w0 X hp) (h0 : w0.heap.size ≤ B) (hB : ∀ b ∈ fps hp, b < B) (h : Chg R X Y) (hR : ∀ r ∈ R, B ≤ r) : St F w0 Y hp := by
  have hk : ∀ k, k < X.heap.size → k < B → Y.heap[k]? = X.heap[k]? := fun k h1 h2 => h.block k h1 (fun hm => by have := hR k hm; omega)
  refine ⟨⟨h.os.trans s.chg.os, h.tape.trans s.chg.tape, h.output.trans s.chg.output, Nat.le_trans s.chg.size h.size, fun k h1 h2 => (hk k (Nat.lt_of_lt_of_le h1 s.chg.size) (by omega)).trans (s.chg.block k h1 h2)⟩, fun c hc => ?_, s.nodup, s.fresh⟩
  refine Ck.local (s.all c hc) (fun k hm => hk k (Ck.lt (s.all c hc) k hm) (hB k (List.mem_flatMap.2 ⟨c, hc, hm⟩)))
section
variable {P : Program} {Q : Exit → Act → World → Prop} {N : Nat} {env : List (Nat × Value)} {a : Act} {w : World}
theorem resC {fn : Func} {t ty : Nat} {p : Addr} {v : Value} (h : a.tmps.getD t undef = .pointer (some p)) (hr : fn.results = #[.cell t ty]) (hl : (loadVar ty p).run P w = .ok v w) : (results fn a.tmps).run P w = .ok v w := by
  unfold results
  rw [show fn.results = [.cell t ty].toArray by rw [hr]]
  simp only [List.mapM_toArray, Sem.run_bind, Sem.run_map]
  rw [resV_run (ResV.cell h hl .nil) _ (fun _ => rfl) (fun _ _ => rfl)]
  simp
theorem retMc {fn : Func} {R : Ending → World → Prop} {t ty : Nat} {p : Addr} {v : Value} (E : Env N env a) (hr : fn.results = #[.cell t ty]) (h : look env t = some (.pointer (some p))) (hl : (loadVar ty p).run P w = .ok v w) (hR : R (.returned v) w) : Qr (bodyPostM Fence.wide 3 P fn R) .ret a w := by
  show LeavesInM _ _ _ _ _ _ a.defers _ _
  rw [E.defers]
  exact ⟨v, resC (E.slot t _ h) hr hl, hR⟩
theorem retMcD {fn : Func} {R : Ending → World → Prop} {t ty D : Nat} {p : Addr} {v : Value} (E : EnvD [{ target := .collected D, args := #[] }] N env a) (hK : w.heap[D]? = some (.deferred (some []))) (hr : fn.results = #[.cell t ty]) (h : look env t = some (.pointer (some p))) (hl : (loadVar ty p).run P (w.putObj D (.deferred none)) = .ok v (w.putObj D (.deferred none))) (hR : R (.returned v) (w.putObj D (.deferred none))) : Qr (bodyPostM Fence.wide 3 P fn R) .ret a w := by
  show LeavesInM _ _ _ _ _ _ a.defers _ _
  rw [E.defers]
  refine ⟨by simp, .inl ⟨_, _, rfl, run_takeDeferred hK, ?_⟩⟩
  exact ⟨v, resC (E.slot t _ h) hr hl, hR⟩
theorem Run.nes {ops : Array Oper} {dfs : List Deferred} {i d : Nat} {k : Kind} {r : List (Nat × Kind)} {ty : TypeId} {pos : String} {af : Array Edge} {g : Option (Nat × Bool)} {x y : Operand} {xt yt : TypeId} {p q : ByteArray} {b : Bool} (hi : ops[i]? = some ⟨some d, .binOp .neq xt x y yt, ty, pos, af, g⟩) (E : EnvD dfs N env a) (hw : wnt ops env g = true) (hN : Nat.blt d N = true) (hx : ev env x = some (.string p)) (hy : ev env y = some (.string q)) (hb : (!(p.toList == q.toList)) = b)
    (K : ∀ a', EnvD dfs N ((d, .bool b) :: env) a' → Run P ops Q r a' w) : Run P ops Q ((i, k) :: r) a w :=
  Run.bin hi E hw hN hx hy (fun w => by subst hb; simp [eqGuard, binOp, Op.stringOp]) K
end
section
variable {F : Fence} {n : Nat} {P : Program}
/-- An iterator's contract: V is what is said of what is handed. -/
def SeqW {α : Type} (F : Fence) (n : Nat) (P : Program) (g : Nat) (lb : Array Value) (encs : α → Array Value) (Kp : World → World → Prop) (V : List α → α → World → Prop) (S : List α → Prop) (w : World) : Prop :=
  ∀ (l : Nat) (J Jx : List α → World → Prop) (W : World), Below w.heap.size w W → AbC W.heap.size J → AbC W.heap.size Jx →
    (∀ pre x W1, J pre W1 → V pre x W1 → YieldAt F (n - 1) P l (encs x) W1 fun e W' => (e = .returned (.bool true) ∧ J (pre ++ [x]) W' ∧ Kp W1 W') ∨ (e = .returned (.bool false) ∧ Jx (pre ++ [x]) W')) →
    J [] W → CallsIn F n P g (#[.func (.yield l) #[] #[]] ++ lb) W fun e W' => (∃ v, e = .returned v) ∧ ((∃ xs, S xs ∧ J xs W') ∨ (∃ pre, Jx pre W'))
set_option maxHeartbeats 1000000 in
/-- The loop over such an iterator. -/
theorem range_own {α : Type} {g : Operand} {ps : Array Tmp} {assign body : Code} {Q : Exit → Act → World → Prop} {a : Act} {w : World}
    (hro : F.round = none) (h1 : 1 ≤ n) {gf : Nat} {lb : Array Value} (hg : a.eval g = .func (.func gf) #[] lb) (hFg : F.fn gf) (eg : ∀ args w, (callFunc gf args).run P w = .ok (.enter gf args) w)
    {encs : α → Array Value} {F0 : List Nat} {V : List α → α → World → Prop} {S : List α → Prop} (hseq : SeqW F (n - 1) P gf lb encs (Kc F0) V S w) (hps : ∀ x, (encs x).size = ps.size)
    (I : List α → World → Prop) (Ix : Code → List α → World → Prop) (hI : AbC w.heap.size I) (hIx : ∀ c, AbC w.heap.size (Ix c)) (h0 : I [] w) (Ax : List α → α → Act → World → Prop) (hAx : ∀ pre x a', OwnFrom w.heap.size (fun (_ : Unit) W => Ax pre x a' W))
    (hassign : ∀ (l : Nat) (pre : List α) (x : α) (W : World) (K : Act → World → Prop), w.heap.size ≤ W.heap.size → I pre W → V pre x W → (∀ a' W', KeepsFrom w.heap.size W W' → Kc F0 W W' → I pre W' → Ax pre x a' W' → K a' W') →
      assign.wpIn (F.inRound l) (n - 1 - 1) P (Exit.then K (fun _ _ _ => False)) { tmps := (ps.zip (encs x)).foldl (fun t (p, v) => t.setIfInBounds p v) a.tmps, defers := [] } W)
    (hbody : ∀ (l : Nat) (pre : List α) (x : α) (a' : Act) (W : World), w.heap.size ≤ W.heap.size → I pre W → Ax pre x a' W → body.wpIn (F.inRound l) (n - 1 - 1) P (ownPostG w.heap.size (Kc F0) I Ix (pre ++ [x]) W) a' W)
    (hdone : ∀ (D : Nat) (xs : List α) (W : World), w.heap.size ≤ D → S xs → I xs W → W.heap[D]? = some (.deferred (some [])) → Q .normal { a with defers := { target := .collected D, args := #[] } :: a.defers } W)
    (hstop : ∀ (D : Nat) (c : Code) (pre : List α) (W : World), w.heap.size ≤ D → Ix c pre W → W.heap[D]? = some (.deferred (some [])) → c.wpIn F n P Q { a with defers := { target := .collected D, args := #[] } :: a.defers } W) :
    (Code.rangeFunc g ps assign body).wpIn F n P Q a w := by
  refine wpIn_rangeFunc fun fn hfn => ?_
  rw [hro]
  -- the record R of the loop lies at L, the block for deferred calls at D
  obtain ⟨D, hD⟩ : ∃ D, D = w.heap.size := ⟨_, rfl⟩
  obtain ⟨R, hR⟩ : ∃ R : LoopState → Option Code → Loop, R = fun st pe => { state := st, pending := pe, fn, tmps := a.tmps, params := ps, assign, body, defers := w.heap.size } := ⟨_, rfl⟩
  obtain ⟨X, hX⟩ : ∃ X, X = (w.alloc (.deferred (some []))).alloc (.loop (R .ready none)) := ⟨_, rfl⟩
  have hXs : X.heap.size = D + 2 := by rw [hX, hD]; simp
  have bX : Bel w X := by rw [hX]; exact ((Below.refl _ w).alloc (Nat.le_refl _) _).alloc (by simp) _
  have lX : X.heap[D + 1]? = some (.loop (R .ready none)) := by
    have := World.alloc_heap_new (w.alloc (.deferred (some []))) (.loop (R .ready none))
    rw [World.size_alloc] at this; rw [hX, hD]; exact this
  have dX : X.heap[D]? = some (.deferred (some [])) := by
    rw [hX, hD]; exact (Below.heap_alloc _ _ _ (by simp)).trans (World.alloc_heap_new w _)
  have hB : ∀ Rr : List Nat, (∀ r ∈ Rr, X.heap.size ≤ r) → D + 1 ∉ Rr ∧ D ∉ Rr ∧ ∀ r ∈ Rr, w.heap.size ≤ r := by
    intro Rr hr
    refine ⟨fun m => ?_, fun m => ?_, fun r m => ?_⟩
    · have h := hr _ m; omega
    · have h := hr _ m; omega
    · have h := hr _ m; omega
  have keep : ∀ {A B : World} {Rr : List Nat} {k : Nat} {o : Obj}, Chg Rr A B → k ∉ Rr → A.heap[k]? = some o → B.heap[k]? = some o := fun hc hk h => (hc.block _ (Array.getElem?_eq_some_iff.1 h).1 hk).trans h
  have aJ : AbC X.heap.size (fun (pre : List α) (W : World) => I pre W ∧ W.heap[D + 1]? = some (.loop (R .ready none)) ∧ W.heap[D]? = some (.deferred (some []))) := by
    rintro s A B Rr ⟨i1, i2, i3⟩ hc hr
    obtain ⟨q1, q2, q3⟩ := hB Rr hr
    exact ⟨hI s A B Rr i1 hc q3, keep hc q1 i2, keep hc q2 i3⟩
  have aJx : AbC X.heap.size (fun (pre : List α) (W : World) => ∃ c, Ix c pre W ∧ W.heap[D + 1]? = some (.loop (R .done (some c))) ∧ W.heap[D]? = some (.deferred (some []))) := by
    rintro s A B Rr ⟨c, i1, i2, i3⟩ hc hr
    obtain ⟨q1, q2, q3⟩ := hB Rr hr
    exact ⟨c, hIx c s A B Rr i1 hc q3, keep hc q1 i2, keep hc q2 i3⟩
  refine (fun sq => ?_ : CallsIn F (n - 1) P gf (#[.func (.yield (D + 1)) #[] #[]] ++ lb) X (fun e W' => (∃ v, e = .returned v) ∧ ((∃ xs, S xs ∧ (I xs W' ∧ W'.heap[D + 1]? = some (.loop (R .ready none)) ∧ W'.heap[D]? = some (.deferred (some [])))) ∨ (∃ pre, ∃ c, Ix c pre W' ∧ W'.heap[D + 1]? = some (.loop (R .done (some c))) ∧ W'.heap[D]? = some (.deferred (some []))))) → _) (hseq (D + 1) _ _ X bX aJ aJx ?_ ⟨hI.bel h0 bX, lX, dX⟩)
  · refine ⟨D + 1, [{ target := .collected w.heap.size, args := #[] }], X, { target := .fn (.func gf) lb, args := #[.func (.yield (D + 1)) #[] #[]] }, X, gf, #[.func (.yield (D + 1)) #[] #[]] ++ lb, X, ?_, ?_, ?_, ?_, fun _ => h1, ?_⟩
    · rw [hX, hR, hD]; exact run_enterLoop_outer _ _ _ _ _
    · simp only [resolve, hg]; simp [go_sem]
    · intro f hf; simp [Target.leads] at hf; subst hf; exact hFg
    · simp [invoke, go_sem, eg]
    · refine sq.mono ?_
      rintro e W ⟨⟨v, rfl⟩, ⟨xs, hS, hi, hl, hd⟩ | ⟨pre, c, hi, hl, hd⟩⟩
      · have hr := run_endLoop (P := P) hl (by rw [hR]; simp)
        rw [hR] at hr
        exact ⟨none, _, hr, by rw [← hD]; exact hdone D xs _ (by omega) hS (hI.putObj _ hi (by omega)) ((World.putObj_heap_other (by omega)).trans hd)⟩
      · have hr := run_endLoop (P := P) hl (by rw [hR]; simp)
        rw [hR] at hr
        exact ⟨some c, _, hr, by rw [← hD]; exact hstop D c pre _ (by omega) ((hIx c).putObj _ hi (by omega)) ((World.putObj_heap_other (by omega)).trans hd)⟩
  · -- one round
    rintro pre x W ⟨hi, hl, hd⟩ hv
    have hlt : D + 1 < W.heap.size := (Array.getElem?_eq_some_iff.1 hl).1
    have hy := run_yield (P := P) (args := encs x) hl (by rw [hR]; exact hps x)
    rw [hR] at hy
    refine ⟨fn, _, assign, body, hy, roundIn_of_wpIn hfn (hassign _ pre x W _ (by omega) hi hv fun a' W1 hf1 hk1 hi1 hax => ?_)⟩
    have hl1 := hf1.same _ _ (by omega) hl rfl
    have hd1 := hf1.same _ _ (by omega) hd rfl
    have hlt1 : D + 1 < W1.heap.size := (Array.getElem?_eq_some_iff.1 hl1).1
    refine ⟨_, run_beginRound hl1 (by rw [hR]), ?_⟩
    obtain ⟨W2, hW2⟩ : ∃ W2, W2 = W1.putObj (D + 1) (.loop { R .ready none with state := .busy }) := ⟨_, rfl⟩
    rw [← hW2]
    have hl2 : W2.heap[D + 1]? = some (.loop { R .ready none with state := .busy }) := by rw [hW2]; exact World.putObj_heap_same hlt1
    have hd2 : W2.heap[D]? = some (.deferred (some [])) := by rw [hW2]; exact (World.putObj_heap_other (by omega)).trans hd1
    have hk2 : Kc F0 W1 W2 := by rw [hW2]; exact Kc.putObj _ _ _ _ hl1 rfl
    have hi2 : I pre W2 := by rw [hW2]; exact hI.putObj _ hi1 (by omega)
    have hax2 : Ax pre x a' W2 := by rw [hW2]; exact (hAx pre x a').putObj (s := ()) _ hax (by omega) hl1 rfl
    have hs2 : w.heap.size ≤ W2.heap.size := by have := (Array.getElem?_eq_some_iff.1 hl2).1; omega
    refine wpIn_mono (hbody _ pre x a' W2 hs2 hi2 hax2) ?_
    have out : ∀ (jump : Option Code) (W3 : World), KeepsFrom w.heap.size W2 W3 → ∃ st, st = (if jump.isNone then LoopState.ready else LoopState.done) ∧ (Instr.endRound (D + 1) jump).run P W3 = .ok (.bool jump.isNone) (W3.putObj (D + 1) (.loop (R st jump))) ∧ W3.heap[D + 1]? = some (.loop { R .ready none with state := .busy }) ∧
        (W3.putObj (D + 1) (.loop (R st jump))).heap[D + 1]? = some (.loop (R st jump)) ∧ (W3.putObj (D + 1) (.loop (R st jump))).heap[D]? = some (.deferred (some [])) := by
      intro jump W3 h3
      have hl3 := h3.same _ _ (by omega) hl2 rfl
      have hd3 := h3.same _ _ (by omega) hd2 rfl
      have hr := run_endRound (P := P) jump hl3
      refine ⟨_, rfl, ?_, hl3, World.putObj_heap_same (Array.getElem?_eq_some_iff.1 hl3).1, (World.putObj_heap_other (by omega)).trans hd3⟩
      rw [hR] at hr ⊢; exact hr
    rintro e a3 W3 hp
    cases e with
    | normal =>
      obtain ⟨h3, hk3, hi3⟩ := hp
      obtain ⟨st, rfl, hr, hl3, hl4, hd4⟩ := out none W3 h3
      exact ⟨_, _, hr, .inl ⟨rfl, ⟨hI.putObj _ hi3 (by omega), hl4, hd4⟩, hk1.trans (hk2.trans (hk3.trans (Kc.putObj _ _ _ _ hl3 rfl)))⟩⟩
    | ret =>
      obtain ⟨h3, hi3⟩ := hp
      obtain ⟨st, rfl, hr, hl3, hl4, hd4⟩ := out (some .ret) W3 h3
      exact ⟨_, _, hr, .inr ⟨rfl, .ret, (hIx _).putObj _ hi3 (by omega), hl4, hd4⟩⟩
    | exit id =>
      obtain ⟨h3, hi3⟩ := hp
      obtain ⟨st, rfl, hr, hl3, hl4, hd4⟩ := out (some (.exit id)) W3 h3
      exact ⟨_, _, hr, .inr ⟨rfl, .exit id, (hIx _).putObj _ hi3 (by omega), hl4, hd4⟩⟩
    | goto t =>
      obtain ⟨h3, hi3⟩ := hp
      obtain ⟨st, rfl, hr, hl3, hl4, hd4⟩ := out (some (.goto t)) W3 h3
      exact ⟨_, _, hr, .inr ⟨rfl, .goto t, (hIx _).putObj _ hi3 (by omega), hl4, hd4⟩⟩
    | panic ch => exact hp.elim
    | outgrown => exact hp.elim
end
end Go.Proofs.Ytlcglefbhlhcpaa.K
