/- A tape: plain. -/
import Derived.Test.YtlcglefbhlhcpaaGeW
namespace Go.Proofs.Ytlcglefbhlhcpaa.K
open Go.RowKit
set_option linter.unusedVariables false
/-- The state ahead of the k-th. -/
def prevS (G ev : Nat) (ts : List Sta) (k : Nat) : Sta := if k % ev = 0 then Sta.blank (2 * (G + 1)) else (ts[k - 1]?).getD Sta.zero
/-- The first k records. -/
def recs (G ev : Nat) (ts : List Sta) : Nat → List Nat
  | 0 => []
  | k + 1 => recs G ev ts k ++ rec18 (prevS G ev ts k) ((ts[k]?).getD Sta.zero)
def tbytes (G ev : Nat) (ts : List Sta) : List Nat := recs G ev ts ts.length
def tstarts (G ev : Nat) (ts : List Sta) : List Int := (List.range ts.length).map (fun k => ((recs G ev ts k).length : Int))
def lastS (ts : List Sta) : Sta := (ts.getLast?).getD Sta.zero
theorem prevS_congr {G ev : Nat} {ts us : List Sta} {k : Nat} (h : ∀ j, j < k → ts[j]? = us[j]?) : prevS G ev ts k = prevS G ev us k := by
  unfold prevS
  split
  · rfl
  · rename_i hk
    have : k ≠ 0 := fun e => by subst e; simp at hk
    rw [h (k - 1) (by omega)]
theorem recs_congr {G ev : Nat} {ts us : List Sta} : ∀ k, (∀ j, j < k → ts[j]? = us[j]?) → recs G ev ts k = recs G ev us k
  | 0, _ => rfl
  | k + 1, h => by
    rw [recs, recs, recs_congr k (fun j hj => h j (by omega)), prevS_congr (k := k) (fun j hj => h j (by omega)), h k (by omega)]
theorem snoc_same {ts : List Sta} {s : Sta} {j : Nat} (h : j < ts.length) : (ts ++ [s])[j]? = ts[j]? := List.getElem?_append_left h
theorem prevS_snoc {G ev : Nat} {ts : List Sta} {s : Sta} {k : Nat} (h : k ≤ ts.length) : prevS G ev (ts ++ [s]) k = prevS G ev ts k := prevS_congr (fun j hj => snoc_same (by omega))
theorem recs_snoc {G ev : Nat} {ts : List Sta} {s : Sta} {k : Nat} (h : k ≤ ts.length) : recs G ev (ts ++ [s]) k = recs G ev ts k := recs_congr k (fun j hj => snoc_same (by omega))
theorem tbytes_snoc (G ev : Nat) (ts : List Sta) (s : Sta) : tbytes G ev (ts ++ [s]) = tbytes G ev ts ++ rec18 (prevS G ev ts ts.length) s := by
  unfold tbytes
  rw [List.length_append, List.length_singleton, recs, recs_snoc (Nat.le_refl _), prevS_snoc (Nat.le_refl _)]
  simp
theorem tstarts_len (G ev : Nat) (ts : List Sta) : (tstarts G ev ts).length = ts.length := by simp [tstarts]
theorem tstarts_get {G ev : Nat} {ts : List Sta} {k : Nat} (h : k < ts.length) : (tstarts G ev ts)[k]? = some ((recs G ev ts k).length : Int) := by simp [tstarts, h]
theorem tstarts_snoc (G ev : Nat) (ts : List Sta) (s : Sta) : tstarts G ev (ts ++ [s]) = tstarts G ev ts ++ [((tbytes G ev ts).length : Int)] := by
  unfold tstarts
  rw [List.length_append, List.length_singleton, List.range_succ, List.map_append]
  congr 1
  · apply List.map_congr_left
    intro k hk
    rw [recs_snoc (Nat.le_of_lt (List.mem_range.1 hk))]
  · simp only [List.map_cons, List.map_nil]; rw [recs_snoc (Nat.le_refl _)]; rfl
theorem recs_mono (G ev : Nat) (ts : List Sta) (k : Nat) : ∀ d, ∃ r, recs G ev ts (k + d) = recs G ev ts k ++ r
  | 0 => ⟨[], by simp⟩
  | d + 1 => by
    obtain ⟨r, hr⟩ := recs_mono G ev ts k d
    exact ⟨r ++ rec18 (prevS G ev ts (k + d)) ((ts[k + d]?).getD Sta.zero), by rw [← Nat.add_assoc, recs, hr, List.append_assoc]⟩
/-- The k-th record stands where it begins. -/
theorem recs_sat {G ev : Nat} {ts : List Sta} {k : Nat} {t : Sta} (h : ts[k]? = some t) : Sat (tbytes G ev ts) (recs G ev ts k).length (rec18 (prevS G ev ts k) t) := by
  have hlt := (List.getElem?_eq_some_iff.1 h).1
  obtain ⟨r, hr⟩ := recs_mono G ev ts (k + 1) (ts.length - (k + 1))
  rw [show k + 1 + (ts.length - (k + 1)) = ts.length by omega] at hr
  refine ⟨r, ?_⟩
  unfold tbytes
  rw [hr, recs, h, Option.getD_some, List.append_assoc, List.drop_left]
theorem recs_le {G ev : Nat} {ts : List Sta} {k : Nat} (h : k ≤ ts.length) : (recs G ev ts k).length ≤ (tbytes G ev ts).length := by
  obtain ⟨r, hr⟩ := recs_mono G ev ts k (ts.length - k)
  rw [show k + (ts.length - k) = ts.length by omega] at hr
  unfold tbytes; rw [hr, List.length_append]; omega
theorem recs_byte (G ev : Nat) (ts : List Sta) : ∀ k, ∀ x ∈ recs G ev ts k, x < 256
  | 0, x, h => by simp [recs] at h
  | k + 1, x, h => by
    rw [recs] at h
    exact byte_app (recs_byte G ev ts k) (rec18_byte _ _) x h
theorem tbytes_byte (G ev : Nat) (ts : List Sta) : ∀ x ∈ tbytes G ev ts, x < 256 := recs_byte _ _ _ _
theorem recs_two (G ev : Nat) (ts : List Sta) : ∀ k, 2 * k ≤ (recs G ev ts k).length
  | 0 => Nat.le_refl _
  | k + 1 => by
    have := recs_two G ev ts k
    have h2 := rec18_two (prevS G ev ts k) ((ts[k]?).getD Sta.zero)
    rw [recs, List.length_append]; omega
theorem blank_groups (G : Nat) : (Sta.blank (2 * (G + 1))).groups = (G : Int) := by
  unfold Sta.groups Sta.blank; simp only [List.length_replicate]; omega
theorem blank_base {G : Nat} (h : G ≤ 99) : (Sta.blank (2 * (G + 1))).base := by
  right
  have hl : (Sta.blank (2 * (G + 1))).caps.length = 2 * (G + 1) := by simp [Sta.blank]
  refine ⟨?_, ?_, ?_⟩
  · rw [blank_groups]; omega
  · rw [blank_groups, hl]; omega
  · rw [hl]
theorem right_groups {t : Sta} {G : Nat} (h : t.Right (G : Int)) : t.groups = (G : Int) := by
  obtain ⟨_, h2, _⟩ := h; unfold Sta.groups; omega
theorem right_base {t : Sta} {G : Nat} (h : t.Right (G : Int)) : t.base := .inl (by rw [right_groups h]; exact h)
theorem right_capl {t : Sta} {G : Nat} (h : t.Right (G : Int)) : t.caps.length = 2 * (G + 1) := by
  obtain ⟨_, h2, _⟩ := h; omega
/-- What a tape holds to. -/
structure TapeOK (G ev : Nat) (ts : List Sta) : Prop where
  g : G ≤ 99
  e0 : 1 ≤ ev
  e1 : ev ≤ 1024
  right : ∀ s ∈ ts, s.Right (G : Int)
theorem TapeOK.prev {G ev : Nat} {ts : List Sta} (h : TapeOK G ev ts) {k : Nat} (hk : k ≤ ts.length) : (prevS G ev ts k).base ∧ (prevS G ev ts k).groups = (G : Int) ∧ (prevS G ev ts k).caps.length = 2 * (G + 1) := by
  unfold prevS
  split
  · exact ⟨blank_base h.g, blank_groups G, by simp [Sta.blank]⟩
  · rename_i hm
    have h0 : k ≠ 0 := fun e => by subst e; simp at hm
    have hx : ts[k - 1]? = some (ts[k - 1]'(by omega)) := List.getElem?_eq_getElem _
    rw [hx, Option.getD_some]
    have hr := h.right _ (List.getElem_mem (show k - 1 < ts.length by omega))
    exact ⟨right_base hr, right_groups hr, right_capl hr⟩
theorem TapeOK.snoc {G ev : Nat} {ts : List Sta} (h : TapeOK G ev ts) {s : Sta} (hs : s.Right (G : Int)) : TapeOK G ev (ts ++ [s]) :=
  ⟨h.g, h.e0, h.e1, fun x hx => by
    rcases List.mem_append.1 hx with hx | hx
    · exact h.right x hx
    · rw [List.mem_singleton.1 hx]; exact hs⟩
theorem lastS_prev {G ev : Nat} {ts : List Sta} (h : ts.length % ev ≠ 0) : prevS G ev ts ts.length = lastS ts := by
  unfold prevS lastS
  rw [if_neg h, List.getLast?_eq_getElem?]
theorem prev_blank {G ev : Nat} {ts : List Sta} {k : Nat} (h : k % ev = 0) : prevS G ev ts k = Sta.blank (2 * (G + 1)) := if_pos h
theorem prev_get {G ev : Nat} {ts : List Sta} {k : Nat} {t : Sta} (h : (k + 1) % ev ≠ 0) (ht : ts[k]? = some t) : prevS G ev ts (k + 1) = t := by
  unfold prevS; rw [if_neg h, Nat.add_sub_cancel, ht]; rfl
theorem lastS_snoc (ts : List Sta) (s : Sta) : lastS (ts ++ [s]) = s := by simp [lastS]
theorem lastS_small {G ev : Nat} {ts : List Sta} (h : TapeOK G ev ts) : (lastS ts).caps.length ≤ 2 * (G + 1) := by
  unfold lastS
  rw [List.getLast?_eq_getElem?]
  cases hx : ts[ts.length - 1]? with
  | none => simp [Sta.zero]
  | some t => 
    have hm := List.mem_of_getElem? hx
    have := right_capl (h.right t hm)
    simp only [Option.getD_some]; omega
/-- A state is taken, or it isn't. -/
def addT (G ev : Nat) (lim : Int) (ts : List Sta) (s : Sta) : List Sta := if s.Right (G : Int) ∧ ((tbytes G ev ts ++ rec18 (prevS G ev ts ts.length) s).length : Int) ≤ lim then ts ++ [s] else ts
def takes (G ev : Nat) (lim : Int) (l : List Sta) : List Sta := l.foldl (addT G ev lim) []
theorem TapeOK.add {G ev : Nat} {lim : Int} {ts : List Sta} (h : TapeOK G ev ts) (s : Sta) : TapeOK G ev (addT G ev lim ts s) := by
  unfold addT; split
  · rename_i hh; exact h.snoc hh.1
  · exact h
theorem addT_lim {G ev : Nat} {lim : Int} {ts : List Sta} (h : ((tbytes G ev ts).length : Int) ≤ lim) (s : Sta) : ((tbytes G ev (addT G ev lim ts s)).length : Int) ≤ lim := by
  unfold addT; split
  · rename_i hh; rw [tbytes_snoc]; exact hh.2
  · exact h
theorem addT_len (G ev : Nat) (lim : Int) (ts : List Sta) (s : Sta) : (addT G ev lim ts s).length ≤ ts.length + 1 := by
  unfold addT; split <;> simp
theorem takes_snoc (G ev : Nat) (lim : Int) (l : List Sta) (s : Sta) : takes G ev lim (l ++ [s]) = addT G ev lim (takes G ev lim l) s := by simp [takes]
theorem takes_take (G ev : Nat) (lim : Int) (l : List Sta) {i : Nat} {s : Sta} (h : l[i]? = some s) : takes G ev lim (l.take (i + 1)) = addT G ev lim (takes G ev lim (l.take i)) s := by
  rw [← takes_snoc]; congr 1
  rw [List.take_add_one, h]; rfl
theorem fold_ok {G ev : Nat} (lim : Int) : ∀ (l ts : List Sta), TapeOK G ev ts → TapeOK G ev (l.foldl (addT G ev lim) ts)
  | [], _, h => h
  | s :: l, _, h => fold_ok lim l _ (h.add s)
theorem takes_ok {G ev : Nat} (lim : Int) (hG : G ≤ 99) (h0 : 1 ≤ ev) (h1 : ev ≤ 1024) (l : List Sta) : TapeOK G ev (takes G ev lim l) := fold_ok lim l [] ⟨hG, h0, h1, fun _ h => by cases h⟩
theorem fold_lim {G ev : Nat} {lim : Int} : ∀ (l ts : List Sta), ((tbytes G ev ts).length : Int) ≤ lim → ((tbytes G ev (l.foldl (addT G ev lim) ts)).length : Int) ≤ lim
  | [], _, h => h
  | s :: l, _, h => fold_lim l _ (addT_lim h s)
theorem takes_lim {G ev : Nat} {lim : Int} (h : 0 ≤ lim) (l : List Sta) : ((tbytes G ev (takes G ev lim l)).length : Int) ≤ lim := fold_lim l [] h
theorem fold_len {G ev : Nat} {lim : Int} : ∀ (l ts : List Sta), (l.foldl (addT G ev lim) ts).length ≤ ts.length + l.length
  | [], _ => Nat.le_refl _
  | s :: l, ts => by
    have h1 := fold_len (G := G) (ev := ev) (lim := lim) l (addT G ev lim ts s)
    have h2 := addT_len G ev lim ts s
    simp only [List.foldl_cons, List.length_cons]; omega
theorem takes_len (G ev : Nat) (lim : Int) (l : List Sta) : (takes G ev lim l).length ≤ l.length := by have := fold_len (G := G) (ev := ev) (lim := lim) l []; simpa [takes] using this
end Go.Proofs.Ytlcglefbhlhcpaa.K
