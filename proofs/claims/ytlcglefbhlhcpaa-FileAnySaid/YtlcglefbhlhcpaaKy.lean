/- Constant bytes: the row's mark; what is put behind a full row. -/
import Derived.Test.YtlcglefbhlhcpaaDeP
namespace Go.Proofs.Ytlcglefbhlhcpaa.K
open Go.RowKit
set_option linter.unusedVariables false
section
variable {P : Program} {ops : Array Oper} {Q : Exit → Act → World → Prop} {dfs : List Deferred} {N : Nat} {env : List (Nat × Value)} {a : Act} {w : World} {i d : Nat} {k : Kind} {r : List (Nat × Kind)}
variable {ty : TypeId} {pos : String} {af : Array Edge} {g : Option (Nat × Bool)} {F : List Nat} {w0 : World} {hp : List Ck}
theorem run_convMark {t e b n c : Nat} {cs : Array Value} (hb : w.heap[b]? = some (.cells cs e (0, 0))) (ht : P.underlying t = some (.slice e)) (he : P.underlying e = some (.int .u8)) :
    (convert t t (.slice (some ⟨b, 0, none⟩) n c)).run P w = .ok (.slice (some ⟨b, 0, none⟩) n c) (w.freeze ⟨b, cs.size, none⟩ 1) := by
  have hsh : w.shape? b = some (e, cs.size) := by unfold World.shape?; rw [hb]
  simp [convert, run_underlying ht, run_underlying he, markStringish, hsh]
theorem freeze_chg {e b m : Nat} {cs : Array Value} (hb : w.heap[b]? = some (.cells cs e (0, 0))) : Chg [b] w (w.freeze ⟨b, m, none⟩ 1) ∧ ∃ fr, (w.freeze ⟨b, m, none⟩ 1).heap[b]? = some (.cells cs e fr) := by
  unfold World.freeze
  rw [if_neg (by decide)]
  refine ⟨⟨rfl, rfl, rfl, by simp, fun k hk hn => ?_⟩, (m, m + 1), ?_⟩
  · have hne : ¬ b = k := fun h => hn (by simp [h])
    simp [Array.getElem?_modify, hne]
  · simp [Array.getElem?_modify, hb]
/-- The mark of constant bytes: they are let go, and read. -/
theorem Run.convMark {t e b n : Nat} {x : Operand} {cs : List Value} (hi : ops[i]? = some ⟨some d, .convert t t x, ty, pos, af, g⟩) (E : EnvD dfs N env a) (S : St F w0 w (.obj b e cs :: hp)) (hw : wnt ops env g = true) (hN : Nat.blt d N = true)
    (hx : ev env x = some (.slice (some ⟨b, 0, none⟩) n n)) (hn : cs.length = n) (ht : P.underlying t = some (.slice e)) (he : P.underlying e = some (.int .u8))
    (K : ∀ w' a', EnvD dfs N ((d, .slice (some ⟨b, 0, none⟩) n n) :: env) a' → St F w0 w' hp → Rd w' (some ⟨b, 0, none⟩) n 1 cs → Run P ops Q r a' w') : Run P ops Q ((i, .l) :: r) a w := by
  have hb := S.obj 0 rfl
  obtain ⟨hc, fr, hf⟩ := freeze_chg (m := cs.toArray.size) hb
  refine Run.ef rfl hi E hw hN (v := .slice (some ⟨b, 0, none⟩) n n) (w1 := w.freeze ⟨b, cs.toArray.size, none⟩ 1) ?_ (fun h => by cases h) (fun a' E' => K _ a' E' ?_ ?_)
  · simp only [execOp, E.eval hx, Sem.run_bind, run_convMark hb ht he, Result.andThen_ok]
    first | rfl | simp [run_convMark hb ht he]
  · exact St.call (A := [.obj b e cs]) (A' := []) (R := hp) S ⟨(by simpa [fps, Ck.fp] using hc), (fun c h => by cases h), (by simp [fps]), (fun b h => by simp [fps] at h)⟩
  · refine ⟨by rw [hn, Nat.mul_one], fun h0 => ⟨b, 0, rfl, fun j v hj => ?_⟩⟩
    rw [Nat.zero_add, cell_of_row _ b j _ e fr hf]
    simpa using hj
/-- An own block is a row with room. -/
theorem St.objRowC (s : St F w0 w hp) (i : Nat) {b e n cap : Nat} {cs xs : List Value} {hp' : List Ck} (hi : hp[i]? = some (.obj b e cs)) (hn : n ≤ cap) (hm : cap ≤ maxLen) (hc : cs.length = cap) (hx : cs.take n = xs) (hhp : hp.set i (.row (.slice (some ⟨b, 0, none⟩) n cap) e 1 n xs) = hp') : St F w0 w hp' := by
  subst hhp
  refine s.turn i hi (Chg.refl _ _) ⟨by rw [← hx]; simp; omega, .inr ⟨b, cap, cs.toArray, rfl, Nat.zero_le _, s.obj i hi, hn, hm, by simpa using hc, by simpa using hx⟩⟩ (fun k hk => .inl (by simpa [Ck.fp, Value.ownBlock] using hk)) (by simp [Ck.fp, Value.ownBlock])
/-- What is put behind a full row goes, with the row, into a new one. -/
theorem Run.appendGrow {t e n m nm c : Nat} {A B : Option Addr} {x y : Operand} {z : Value} {olds news : List Value} (hk : eff k = true) (hi : ops[i]? = some ⟨some d, .call ⟨.builtin .append, #[x, y], #[t, t]⟩, ty, pos, af, g⟩) (E : EnvD dfs N env a) (S : St F w0 w hp) (hw : wnt ops env g = true) (hN : Nat.blt d N = true)
    (hx : ev env x = some (.slice A n n)) (hy : ev env y = some (.slice B m c)) (he : P.underlying t = some (.slice e)) (hI : (P.info? e).map (fun i => (i.zero, i.size, i.bytes)) = some (some z, 1, 1)) (hz1 : Nat.beq z.cells.size 1 = true)
    (hO : Rd w A n 1 olds) (hR : Rd w B m 1 news) (h0 : 0 < n) (hm0 : 0 < m) (hnm : n + m = nm) (hroom : nm ≤ 140737488355328)
    (K : ∀ A' c' w' a', EnvD dfs N ((d, .slice A' nm c') :: env) a' → St F w0 w' (.row (.slice A' nm c') e 1 nm (olds ++ news) :: hp) → Run P ops Q r a' w') : Run P ops Q ((i, k) :: r) a w := by
  subst hnm
  obtain ⟨inf, hinf, hI⟩ := Option.map_eq_some_iff.1 hI
  simp only [Prod.mk.injEq] at hI
  obtain ⟨hz, hsz, hby⟩ := hI
  obtain ⟨b, o, rfl, hc⟩ := hO.place h0
  obtain ⟨b2, o2, rfl, hc2⟩ := hR.place hm0
  have hl1 := hO.1
  have hl2 := hR.1
  have hr := run_append_grow (P := P) w t ty e inf z he hinf hz ⟨b, o, none⟩ n n olds (by rw [hsz]; exact hl1) (fun j v hj => by rw [add_at]; exact hc j v hj) ⟨b2, o2, none⟩ m c news (by rw [hsz]; exact hl2) (fun j v hj => by rw [add_at]; exact hc2 j v hj) (by omega) (by omega) (by rw [hby]; exact growslice_fits (by omega) (by omega))
  have hge := grownCap_ge w (n + m) n e
  have hcm := grownCap_le_maxLen w (n + m) n e (by unfold maxLen; omega)
  have hzz := Nat.eq_of_beq_eq_true hz1
  have hB : Bel w (w.drew.alloc (.cells (olds.toArray ++ news.toArray ++ Builtin.zeroCells z.cells (grownCap w (n + m) n e - (n + m))) e)) := (Below.refl _ _).drew.alloc (Nat.le_refl _) _
  have hS := S.drew.alloc e (olds.toArray ++ news.toArray ++ Builtin.zeroCells z.cells (grownCap w (n + m) n e - (n + m)))
  refine Run.ef hk hi E hw hN (v := .slice (some ⟨w.heap.size, 0, none⟩) (n + m) (grownCap w (n + m) n e)) (w1 := w.drew.alloc (.cells (olds.toArray ++ news.toArray ++ Builtin.zeroCells z.cells (grownCap w (n + m) n e - (n + m))) e)) ?_ (fun _ => hB) (fun a' E' => K _ _ _ a' E' (hS.objRowC 0 rfl hge hcm ?_ ?_ rfl))
  · simp only [execOp, resolve, invoke, builtin, Sem.run_bind, Sem.run_pure, Result.andThen_ok, List.map_toArray, List.map_cons, List.map_nil, E.eval hx, E.eval hy, hr]
  · simp only [Array.length_toList, Array.size_append, List.size_toArray, size_zeroCells, hzz]; omega
  · have : (olds ++ news).length = n + m := by rw [List.length_append]; omega
    simp only [Array.toList_append, List.append_assoc]
    rw [← List.append_assoc, ← this]
    exact List.take_left
end
end Go.Proofs.Ytlcglefbhlhcpaa.K
