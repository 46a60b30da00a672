/- Lists of states in memory; what is taken by a tape. -/
import Derived.Test.YtlcglefbhlhcpaaTaA
import Derived.Test.YtlcglefbhlhcpaaKs
import Derived.Test.YtlcglefbhlhcpaaDeS
namespace Go.Proofs.Ytlcglefbhlhcpaa.K
open Go.RowKit
set_option linter.unusedVariables false
theorem HoldsAll.bel {w w' : World} (hb : Bel w w') : ∀ {l : List Ck}, HoldsAll w l → HoldsAll w' l
  | [], _ => trivial
  | _ :: _, h => ⟨Ck.bel h.1 hb, h.2.bel hb⟩
def StaM.irow (x : StaM) : IRow := ⟨x.A, x.c, x.s.caps⟩
def stams (l : List StaM) : List Value := l.flatMap StaM.cells
theorem stams_len (l : List StaM) : (stams l).length = l.length * 8 := flat_len _ 8 StaM.len l
theorem stams_get {l : List StaM} {i : Nat} {x : StaM} (h : l[i]? = some x) : ∀ j v, x.cells[j]? = some v → (stams l)[i * 8 + j]? = some v := by
  obtain ⟨hlt, he⟩ := List.getElem?_eq_some_iff.1 h
  subst he
  exact flat_at _ 8 StaM.len l i hlt
theorem stams_snoc (l : List StaM) (s : Sta) (A : Option Addr) (c : Nat) : stams l ++ [.int .i64 s.kind, .int .i64 s.node, .int .i64 s.phase, .int .i64 s.pos, .int .i64 s.start, .int .i64 s.depth, .int .i64 s.org, .slice A s.caps.length c] = stams (l ++ [⟨s, A, c⟩]) := by
  simp [stams, StaM.cells]
theorem irows_snoc (l : List StaM) (s : Sta) (A : Option Addr) (c : Nat) : l.map StaM.irow ++ [(⟨A, c, s.caps⟩ : IRow)] = (l ++ [(⟨s, A, c⟩ : StaM)]).map StaM.irow := by simp [StaM.irow]
theorem St.rowsOne {F : List Nat} {w0 w : World} {H : List IRow} {r : List Ck} (s : St F w0 w (.rows H :: r)) {q : IRow} (hq : q ∈ H) : St F w0 w (.row (.slice q.A q.xs.length q.c) 3 1 q.xs.length (ints q.xs) :: r) := by
  have s2 := s.rowsSub (List.singleton_sublist.2 hq)
  have hf : fps (Ck.rows [q] :: r) = fps (.row (.slice q.A q.xs.length q.c) 3 1 q.xs.length (ints q.xs) :: r) := by
    simp [fps, Ck.fp, IRow.fp, IRow.hdr]
  refine ⟨s2.chg, fun c hc => ?_, hf ▸ s2.nodup, fun b hb => s2.fresh b (hf ▸ hb)⟩
  rcases List.mem_cons.1 hc with rfl | hc
  · exact (s2.all (.rows [q]) List.mem_cons_self) q List.mem_cons_self
  · exact s2.all c (List.mem_cons_of_mem _ hc)
theorem St.newL {w0 w : World} {A R : List Ck} (s : St [] w0 w (A ++ R)) {b : Nat} (hb : b ∈ fps A) : w0.heap.size ≤ b :=
  (s.fresh b (by have h : fps (A ++ R) = fps A ++ fps R := by simp [fps]
                 rw [h]; exact List.mem_append_left _ hb)).resolve_left (by simp)
theorem St.apartRow {F : List Nat} {w0 w : World} {A R : List Ck} (s : St F w0 w (A ++ R)) (i : Nat) {D : Option Addr} {n c e sz m k : Nat} {xs : List Value} (hi : R[i]? = some (.row (.slice D n c) e sz m xs)) : 0 < k → ∀ b_ o, D = some ⟨b_, o, none⟩ → b_ ∉ fps A := by
  intro _ b_ o hD hb
  subst hD
  have h : fps (A ++ R) = fps A ++ fps R := by simp [fps]
  have hn := s.nodup
  rw [h] at hn
  refine (List.nodup_append.1 hn).2.2 b_ hb b_ ?_ rfl
  exact List.mem_flatMap.2 ⟨_, List.mem_of_getElem? hi, by simp [Ck.fp, Value.ownBlock]⟩
theorem own_get {own : List StaM} {ts : List Sta} {k : Nat} {t : Sta} (h : own.map StaM.s = ts) (ht : ts[k]? = some t) : ∃ y, own[k]? = some y ∧ y.s = t := by
  subst h
  rw [List.getElem?_map] at ht
  cases hy : own[k]? with
  | none => rw [hy] at ht; cases ht
  | some y => rw [hy] at ht; exact ⟨y, rfl, Option.some.inj ht⟩
theorem sub_get {l : List StaM} {ts : List Sta} {o n i : Nat} {z : StaM} (h : l.map StaM.s = (ts.drop o).take n) (hz : l[i]? = some z) : ts[o + i]? = some z.s := by
  have h1 : (l.map StaM.s)[i]? = some z.s := by rw [List.getElem?_map, hz]; rfl
  rw [h, List.getElem?_take] at h1
  split at h1
  · rw [List.getElem?_drop] at h1; exact h1
  · cases h1
theorem blk_mod {k ev j : Nat} (h0 : 0 < ev) (hj : j ≤ k % ev) : (k - k % ev + j) % ev = j := by
  have h1 := Nat.div_add_mod k ev
  have h2 := Nat.mod_lt k h0
  have e : k - k % ev = ev * (k / ev) := by omega
  rw [e, Nat.mul_add_mod, Nat.mod_eq_of_lt (by omega)]
/-- What a tape says when it is handed a state. -/
def addE (G ev : Nat) (lim : Int) (ts : List Sta) (s : Sta) : Int := if s.Right (G : Int) then (if ((tbytes G ev ts ++ rec18 (prevS G ev ts ts.length) s).length : Int) ≤ lim then 0 else 13) else 11
theorem addE_zero {G ev : Nat} {lim : Int} {ts : List Sta} {s : Sta} : (addE G ev lim ts s = 0 ∧ addT G ev lim ts s = ts ++ [s]) ∨ (addE G ev lim ts s ≠ 0 ∧ addT G ev lim ts s = ts) := by
  unfold addE addT
  by_cases h1 : s.Right (G : Int)
  · by_cases h2 : ((tbytes G ev ts ++ rec18 (prevS G ev ts ts.length) s).length : Int) ≤ lim
    · left; rw [if_pos h1, if_pos h2, if_pos ⟨h1, h2⟩]; exact ⟨rfl, rfl⟩
    · right; rw [if_pos h1, if_neg h2, if_neg (fun h => h2 h.2)]; exact ⟨by decide, rfl⟩
  · right; rw [if_neg h1, if_neg (fun h => h1 h.1)]; exact ⟨by decide, rfl⟩
theorem sat_le {G ev : Nat} {ts : List Sta} (h : TapeOK G ev ts) {lim : Int} (hl : ((tbytes G ev ts).length : Int) ≤ lim) (h1 : lim ≤ 16777216) : (tbytes G ev ts).length ≤ 16777216 ∧ (tstarts G ev ts).length ≤ 16777216 ∧ (lastS ts).caps.length ≤ 202 := by
  have h2 := recs_two G ev ts ts.length
  have h3 := lastS_small h
  have h4 := h.g
  unfold tbytes at *
  rw [tstarts_len]
  omega
theorem wa_step {G ev : Nat} (ts : List Sta) (s : Sta) : (ts ++ [s]).length % ev = 0 ∨ s = prevS G ev (ts ++ [s]) (ts ++ [s]).length := by
  by_cases hm2 : (ts ++ [s]).length % ev = 0
  · exact .inl hm2
  · refine .inr ?_
    rw [List.length_append, List.length_singleton] at hm2 ⊢
    exact (prev_get hm2 (by simp)).symm
/-- The third of the examples' states. -/
def stC : Sta := ⟨14, 0, 0, 0, 0, 0, -1, [-1, -1]⟩
theorem rec_C : rec18 stA stC = [14, 0] := by
  have h1 : numS stA.nums.tail stC.nums.tail 6 = ([], 0) := by decide
  have h2 : mvS stA.caps stC.caps stC.caps.length = ([], 0, 0) := by decide
  unfold rec18 mvR
  rw [h1, h2]
  simp [stC, vb_low]
theorem bytes_A : tbytes 0 2 [stA] = [1, 0] := by
  have h := tbytes_snoc 0 2 [] stA
  rw [List.nil_append] at h
  rw [h, prev_blank (by decide), rec_A]; rfl
theorem addT_A : addE 0 2 100 [] stA = 0 ∧ addT 0 2 100 [] stA = [stA] := by
  have hR : stA.Right ((0 : Nat) : Int) := by decide
  have hl : ((tbytes 0 2 [] ++ rec18 (prevS 0 2 [] ([] : List Sta).length) stA).length : Int) ≤ 100 := by
    rw [prev_blank (by decide), rec_A]; decide
  unfold addE addT
  rw [if_pos hR, if_pos hl, if_pos ⟨hR, hl⟩]
  exact ⟨rfl, rfl⟩
theorem addT_C : addE 0 2 100 [stA] stC = 0 ∧ addT 0 2 100 [stA] stC = [stA, stC] := by
  have hR : stC.Right ((0 : Nat) : Int) := by decide
  have hp : prevS 0 2 [stA] ([stA] : List Sta).length = stA := prev_get (k := 0) (by decide) rfl
  have hl : ((tbytes 0 2 [stA] ++ rec18 (prevS 0 2 [stA] ([stA] : List Sta).length) stC).length : Int) ≤ 100 := by
    rw [hp, rec_C, bytes_A]; decide
  unfold addE addT
  rw [if_pos hR, if_pos hl, if_pos ⟨hR, hl⟩]
  exact ⟨rfl, rfl⟩
theorem ok_A : TapeOK 0 2 [stA] := ⟨by decide, by decide, by decide, fun s hs => by rw [List.mem_singleton.1 hs]; decide⟩
theorem ok_AC : TapeOK 0 2 [stA, stC] := ⟨by decide, by decide, by decide, fun s hs => by
  rcases List.mem_cons.1 hs with rfl | hs
  · decide
  · rw [List.mem_singleton.1 hs]; decide⟩
theorem lim_A : ((tbytes 0 2 [stA]).length : Int) ≤ 100 := by rw [bytes_A]; decide
theorem lim_AC : ((tbytes 0 2 [stA, stC]).length : Int) ≤ 100 := by
  have h := tbytes_snoc 0 2 [stA] stC
  have hp : prevS 0 2 [stA] ([stA] : List Sta).length = stA := prev_get (k := 0) (by decide) rfl
  rw [hp, rec_C, bytes_A] at h
  rw [show [stA, stC] = [stA] ++ [stC] from rfl, h]; decide
end Go.Proofs.Ytlcglefbhlhcpaa.K
