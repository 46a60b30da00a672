/- A tape's file: plain. -/
import Derived.Test.YtlcglefbhlhcpaaTaQ
import Derived.Test.YtlcglefbhlhcpaaDeS
import Derived.Test.YtlcglefbhlhcpaaKy
import Derived.Laws.Strings
namespace Go.Proofs.Ytlcglefbhlhcpaa.K
open Go.RowKit
set_option linter.unusedVariables false
def magicB : List Nat := [67, 76, 87, 49]
def headB (G ev n : Nat) : List Nat := magicB ++ vb G ++ vb ev ++ vb n
/-- A tape's file. -/
def packB (G ev : Nat) (ts : List Sta) : List Nat := headB G ev ts.length ++ tbytes G ev ts
/-- So many states are read onto a tape. -/
def opS (G ev : Nat) (lim : Int) (b : List Nat) : Nat → Int → List Sta → Option (Int × List Sta)
  | 0, a, ts => some (a, ts)
  | n + 1, a, ts =>
    if (rdF (prevS G ev ts ts.length) b a).2.1 = 0 ∧ (rdF (prevS G ev ts ts.length) b a).2.2.Right (G : Int) ∧ ((tbytes G ev ts ++ rec18 (prevS G ev ts ts.length) (rdF (prevS G ev ts ts.length) b a).2.2).length : Int) ≤ lim
    then opS G ev lim b n (rdF (prevS G ev ts ts.length) b a).1 (ts ++ [(rdF (prevS G ev ts ts.length) b a).2.2]) else none
theorem opS_go {G ev : Nat} {lim : Int} {b : List Nat} {n : Nat} {a a' : Int} {ts : List Sta} {t : Sta} (h : rdF (prevS G ev ts ts.length) b a = (a', 0, t)) (hR : t.Right (G : Int)) (hl : ((tbytes G ev ts ++ rec18 (prevS G ev ts ts.length) t).length : Int) ≤ lim) : opS G ev lim b (n + 1) a ts = opS G ev lim b n a' (ts ++ [t]) := by
  rw [opS, h, if_pos ⟨rfl, hR, hl⟩]
theorem opS_stop {G ev : Nat} {lim : Int} {b : List Nat} {n : Nat} {a a' : Int} {er : Nat} {ts : List Sta} {t : Sta} (h : rdF (prevS G ev ts ts.length) b a = (a', er, t)) (hn : ¬ (er = 0 ∧ t.Right (G : Int) ∧ ((tbytes G ev ts ++ rec18 (prevS G ev ts ts.length) t).length : Int) ≤ lim)) : opS G ev lim b (n + 1) a ts = none := by
  rw [opS, h, if_neg hn]
/-- What is read onto a tape stood there. -/
theorem opS_some {G ev : Nat} {lim : Int} {b : List Nat} (hb : ∀ x ∈ b, x < 256) : ∀ (n : Nat) (k : Nat) (ts : List Sta) (a' : Int) (us : List Sta), TapeOK G ev ts → k ≤ b.length → ((tbytes G ev ts).length : Int) ≤ lim → opS G ev lim b n (k : Int) ts = some (a', us) → ∃ p, tbytes G ev us = tbytes G ev ts ++ p ∧ Sat b k p ∧ a' = ((k + p.length : Nat) : Int) ∧ us.length = ts.length + n ∧ TapeOK G ev us ∧ ((tbytes G ev us).length : Int) ≤ lim
  | 0, k, ts, a', us, hok, hk, hl, h => by
    rw [opS] at h
    simp only [Option.some.injEq, Prod.mk.injEq] at h
    obtain ⟨rfl, rfl⟩ := h
    exact ⟨[], by simp, Sat.nil _ _, by simp, rfl, hok, hl⟩
  | n + 1, k, ts, a', us, hok, hk, hl, h => by
    obtain ⟨a1, er, t, hr⟩ : ∃ a1 er t, rdF (prevS G ev ts ts.length) b (k : Int) = (a1, er, t) := ⟨_, _, _, rfl⟩
    by_cases hc : er = 0 ∧ t.Right (G : Int) ∧ ((tbytes G ev ts ++ rec18 (prevS G ev ts ts.length) t).length : Int) ≤ lim
    · obtain ⟨rfl, hR, hl2⟩ := hc
      rw [opS_go hr hR hl2] at h
      obtain ⟨p1, p2, p3⟩ := hok.prev (Nat.le_refl ts.length)
      obtain ⟨hs, ha⟩ := rdF_bwd p1 hb hk hr (by rw [p2]; exact hR)
      subst ha
      obtain ⟨p, h1, h2, h3, h4, h5, h6⟩ := opS_some hb n _ (ts ++ [t]) a' us (hok.snoc hR) (hs.len hk) (by rw [tbytes_snoc]; exact hl2) h
      refine ⟨rec18 (prevS G ev ts ts.length) t ++ p, by rw [h1, tbytes_snoc, List.append_assoc], hs.app h2, by rw [h3, List.length_append]; omega, ?_, h5, h6⟩
      rw [h4]; simp; omega
    · rw [opS_stop hr hc] at h; cases h
/-- A tape's records are read onto it. -/
theorem opS_all {G ev : Nat} {lim : Int} {b : List Nat} {us : List Sta} (hok : TapeOK G ev us) (hl : ((tbytes G ev us).length : Int) ≤ lim) {k0 : Nat} (hk0 : k0 ≤ b.length) (hs : Sat b k0 (tbytes G ev us)) : ∀ (n j : Nat), j + n = us.length → opS G ev lim b n ((k0 + (recs G ev us j).length : Nat) : Int) (us.take j) = some (((k0 + (tbytes G ev us).length : Nat) : Int), us)
  | 0, j, h => by
    obtain rfl : j = us.length := by omega
    rw [opS, List.take_length]; rfl
  | n + 1, j, h => by
    have hx : us[j]? = some (us[j]'(by omega)) := List.getElem?_eq_getElem _
    have hlen : (us.take j).length = j := by simp; omega
    have hpv : prevS G ev (us.take j) (us.take j).length = prevS G ev us j := by
      rw [hlen]; exact prevS_congr (fun i hi => by rw [List.getElem?_take, if_pos hi])
    have htb : tbytes G ev (us.take j) = recs G ev us j := by
      unfold tbytes; rw [hlen]; exact recs_congr j (fun i hi => by rw [List.getElem?_take, if_pos hi])
    obtain ⟨r1, hr1⟩ := recs_mono G ev us j (us.length - j)
    rw [show j + (us.length - j) = us.length by omega] at hr1
    obtain ⟨r2, hr2⟩ := recs_mono G ev us (j + 1) (us.length - (j + 1))
    rw [show j + 1 + (us.length - (j + 1)) = us.length by omega] at hr2
    have hrec : recs G ev us (j + 1) = recs G ev us j ++ rec18 (prevS G ev us j) (us[j]'(by omega)) := by rw [recs, hx]; rfl
    have hs2 : Sat b (k0 + (recs G ev us j).length) (rec18 (prevS G ev us j) (us[j]'(by omega))) := by
      have : tbytes G ev us = recs G ev us j ++ (rec18 (prevS G ev us j) (us[j]'(by omega)) ++ r2) := by
        unfold tbytes; rw [hr2, hrec, List.append_assoc]
      rw [this] at hs; exact hs.right.left
    have hs1 : Sat b k0 (recs G ev us j) := by
      unfold tbytes at hs; rw [hr1] at hs; exact hs.left
    obtain ⟨p1, p2, p3⟩ := hok.prev (show j ≤ us.length by omega)
    have hR := hok.right _ (List.getElem_mem (show j < us.length by omega))
    have hf := rdF_fwd p1 (hs1.len hk0) (by rw [p2]; exact hR) hs2
    have hgo := opS_go (n := n) (lim := lim) (ts := us.take j) (by rw [hpv]; exact hf) hR (by
      rw [hpv, htb, ← hrec]
      have := recs_le (G := G) (ev := ev) (ts := us) (k := j + 1) (by omega)
      omega)
    rw [hgo]
    have e1 : us.take j ++ [us[j]'(by omega)] = us.take (j + 1) := by rw [List.take_add_one, hx]; rfl
    rw [e1]
    have := opS_all hok hl hk0 hs n (j + 1) (by omega)
    rw [hrec, List.length_append, ← Nat.add_assoc] at this
    exact this
/-- What bytes are opened as. -/
def opnF (b : List Nat) : Option (Nat × Nat × List Sta) :=
  if b.take 4 = magicB then
    let g := numR b 4 0 99
    let e := numR b g.1 g.2.1 1024
    let m := numR b e.1 e.2.1 16777216
    if m.2.1 = 0 ∧ 1 ≤ e.2.2 then
      match opS g.2.2.toNat e.2.2.toNat 16777216 b m.2.2.toNat m.1 [] with
      | some (a, ts) => if a = (b.length : Int) then some (g.2.2.toNat, e.2.2.toNat, ts) else none
      | none => none
    else none
  else none
theorem opnF_eq {b : List Nat} (hp : b.take 4 = magicB) {a1 a2 a3 v1 v2 v3 : Int} {e1 e2 e3 : Nat} (h1 : numR b 4 0 99 = (a1, e1, v1)) (h2 : numR b a1 e1 1024 = (a2, e2, v2)) (h3 : numR b a2 e2 16777216 = (a3, e3, v3)) : opnF b = if e3 = 0 ∧ 1 ≤ v2 then (match opS v1.toNat v2.toNat 16777216 b v3.toNat a3 [] with | some (a, ts) => if a = (b.length : Int) then some (v1.toNat, v2.toNat, ts) else none | none => none) else none := by
  unfold opnF
  rw [if_pos hp]
  simp only [h1, h2, h3]
theorem opnF_no {b : List Nat} (hp : ¬ b.take 4 = magicB) : opnF b = none := by unfold opnF; rw [if_neg hp]
/-- How many a head has of its three numbers. -/
def hdP (G ev n : Nat) : Nat → List Nat
  | 0 => magicB
  | 1 => magicB ++ vb G
  | 2 => magicB ++ vb G ++ vb ev
  | _ => headB G ev n
theorem strB_eq {l m : List Nat} (hl : ∀ x ∈ l, x < 256) (hm : ∀ x ∈ m, x < 256) : ((strB l).toList == (strB m).toList) = decide (l = m) := by
  have key : ∀ l : List Nat, (∀ x ∈ l, x < 256) → (l.map UInt8.ofNat).map UInt8.toNat = l := by
    intro l hl
    rw [List.map_map]
    conv => rhs; rw [← List.map_id l]
    apply List.map_congr_left
    intro x hx
    have := hl x hx
    simp [UInt8.toNat_ofNat']
    omega
  have e : ∀ l : List Nat, (strB l).toList = l.map UInt8.ofNat := fun l => by unfold strB; exact ByteArray.toList_mk _
  rw [e, e, Bool.eq_iff_iff, beq_iff_eq, decide_eq_true_iff]
  constructor
  · intro h
    rw [← key l hl, ← key m hm, h]
  · intro h; rw [h]
theorem numR_wrapat {k n : Nat} (h : k + n ≤ 140737488355328) : IntKind.i64.wrap ((k : Int) + IntKind.i64.wrap (((k + n : Nat) : Int) - (k : Int))) = ((k + n : Nat) : Int) := by
  rw [wrap_i64, wrap_i64]; omega
theorem numR_zero {b : List Nat} {a : Int} {e : Nat} {m a' v : Int} (h : numR b a e m = (a', 0, v)) : e = 0 := by
  by_cases he : e = 0
  · exact he
  · rw [numR_bad he] at h; simp only [Prod.mk.injEq] at h; exact absurd h.2.1 he
theorem take4_len {b : List Nat} (h : b.take 4 = magicB) : 4 ≤ b.length := by
  have := congrArg List.length h
  simp [magicB] at this; omega
theorem open_pos {b : List Nat} (hb : ∀ x ∈ b, x < 256) (h4 : 4 ≤ b.length) {a1 a2 a3 v1 v2 v3 : Int} {e1 e2 : Nat} (h1 : numR b 4 0 99 = (a1, e1, v1)) (h2 : numR b a1 e1 1024 = (a2, e2, v2)) (h3 : numR b a2 e2 16777216 = (a3, 0, v3)) : ∃ k : Nat, a3 = (k : Int) ∧ k ≤ b.length := by
  obtain rfl := numR_zero h3
  obtain rfl := numR_zero h2
  obtain ⟨_, g, rfl, hg, hs1, ha1⟩ := numR_bwd (k := 4) hb h4 h1
  subst ha1
  have hk1 := hs1.len h4
  obtain ⟨_, e, rfl, he, hs2, ha2⟩ := numR_bwd hb hk1 h2
  subst ha2
  have hk2 := hs2.len hk1
  obtain ⟨_, m, rfl, hm', hs3, ha3⟩ := numR_bwd hb hk2 h3
  exact ⟨_, ha3, hs3.len hk2⟩
theorem addE_ok {G ev : Nat} {lim : Int} {ts : List Sta} {s : Sta} (h : addE G ev lim ts s = 0) : s.Right (G : Int) ∧ ((tbytes G ev ts ++ rec18 (prevS G ev ts ts.length) s).length : Int) ≤ lim := by
  unfold addE at h
  split at h
  · rename_i h1
    split at h
    · rename_i h2; exact ⟨h1, h2⟩
    · simp at h
  · simp at h
theorem pack_nil : packB 0 2 [] = [67, 76, 87, 49, 0, 2, 0] := by
  unfold packB headB
  rw [vb_low (show 0 < 128 by decide), vb_low (show 2 < 128 by decide)]
  rw [show ([] : List Sta).length = 0 from rfl, vb_low (show 0 < 128 by decide)]; rfl
theorem TapeOK.nil {G ev : Nat} (hG : G ≤ 99) (h0 : 1 ≤ ev) (h1 : ev ≤ 1024) : TapeOK G ev [] := ⟨hG, h0, h1, fun _ h => by cases h⟩
theorem opnF_some {b : List Nat} (hb : ∀ x ∈ b, x < 256) {G ev : Nat} {ts : List Sta} (h : opnF b = some (G, ev, ts)) : TapeOK G ev ts ∧ ((tbytes G ev ts).length : Int) ≤ 16777216 ∧ b = packB G ev ts := by
  unfold opnF at h
  split at h
  · rename_i hm
    have hl4 : 4 ≤ b.length := by
      have := congrArg List.length hm
      simp [magicB] at this; omega
    obtain ⟨a1, e1, v1, h1⟩ : ∃ a e v, numR b 4 0 99 = (a, e, v) := ⟨_, _, _, rfl⟩
    obtain ⟨a2, e2, v2, h2⟩ : ∃ a e v, numR b a1 e1 1024 = (a, e, v) := ⟨_, _, _, rfl⟩
    obtain ⟨a3, e3, v3, h3⟩ : ∃ a e v, numR b a2 e2 16777216 = (a, e, v) := ⟨_, _, _, rfl⟩
    simp only [h1, h2, h3] at h
    split at h
    · rename_i hc
      obtain ⟨rfl, hv2⟩ := hc
      obtain rfl := numR_zero h3
      obtain rfl := numR_zero h2
      obtain ⟨_, g, rfl, hg, hs1, ha1⟩ := numR_bwd (k := 4) hb hl4 h1
      subst ha1
      have hk1 := hs1.len hl4
      obtain ⟨_, e, rfl, he, hs2, ha2⟩ := numR_bwd hb hk1 h2
      subst ha2
      have hk2 := hs2.len hk1
      obtain ⟨_, m, rfl, hm', hs3, ha3⟩ := numR_bwd hb hk2 h3
      subst ha3
      have hk3 := hs3.len hk2
      simp only [Int.toNat_natCast] at h
      split at h
      · rename_i a us ho
        split at h
        · rename_i hal
          simp only [Option.some.injEq, Prod.mk.injEq] at h
          obtain ⟨rfl, rfl, rfl⟩ := h
          obtain ⟨p, q1, q2, q3, q4, q5, q6⟩ := opS_some hb m _ [] a us (TapeOK.nil (by omega) (by omega) (by omega)) hk3 (by show (0 : Int) ≤ _; decide) ho
          have htn : tbytes g e [] = [] := rfl
          rw [htn, List.nil_append] at q1
          refine ⟨q5, q6, ?_⟩
          simp at q4
          have hs0 : Sat b 0 magicB := ⟨b.drop 4, by rw [← hm, List.drop_zero, List.take_append_drop]⟩
          have hall : Sat b 0 (magicB ++ vb g ++ vb e ++ vb m ++ p) := by
            refine Sat.app (Sat.app (Sat.app (Sat.app hs0 ?_) ?_) ?_) ?_
            · exact hs1
            · rw [show 0 + (magicB ++ vb g).length = 4 + (vb g).length by simp [magicB]; omega]; exact hs2
            · rw [show 0 + (magicB ++ vb g ++ vb e).length = 4 + (vb g).length + (vb e).length by simp [magicB]; omega]; exact hs3
            · rw [show 0 + (magicB ++ vb g ++ vb e ++ vb m).length = 4 + (vb g).length + (vb e).length + (vb m).length by simp [magicB]; omega]; exact q2
          obtain ⟨r, hr⟩ := hall
          have hrl : r = [] := by
            have hl := congrArg List.length hr
            rw [hal] at q3
            simp only [List.drop_zero, List.length_append, magicB, List.length_cons, List.length_nil] at hl
            exact List.eq_nil_of_length_eq_zero (by omega)
          subst hrl
          rw [List.drop_zero, List.append_nil] at hr
          unfold packB headB
          rw [q4, q1]
          exact hr
        · cases h
      · cases h
    · cases h
  · cases h
theorem vb_big {n : Nat} (h : n ≤ 16777216) : n ≤ 18446744073709551615 := by omega
theorem ts_len {G ev : Nat} {ts : List Sta} (h : ((tbytes G ev ts).length : Int) ≤ 16777216) : ts.length ≤ 8388608 := by
  have := recs_two G ev ts ts.length; unfold tbytes at h; omega
theorem opnF_pack {G ev : Nat} {ts : List Sta} (hok : TapeOK G ev ts) (hl : ((tbytes G ev ts).length : Int) ≤ 16777216) : opnF (packB G ev ts) = some (G, ev, ts) := by
  obtain ⟨b, hb⟩ : ∃ b, b = packB G ev ts := ⟨_, rfl⟩
  have hlen := ts_len hl
  have e : b = magicB ++ (vb G ++ (vb ev ++ (vb ts.length ++ tbytes G ev ts))) := by rw [hb]; unfold packB headB; simp [List.append_assoc]
  have s0 : Sat b 0 (magicB ++ (vb G ++ (vb ev ++ (vb ts.length ++ tbytes G ev ts)))) := ⟨[], by rw [List.drop_zero, List.append_nil, ← e]⟩
  have s1 := s0.right
  rw [show 0 + magicB.length = 4 from rfl] at s1
  have k0 : 4 ≤ b.length := by rw [e]; simp [magicB]
  have k1 := s1.left.len k0
  have k2 := s1.right.left.len k1
  have k3 := s1.right.right.left.len k2
  have hG := hok.g
  have he0 := hok.e0
  have he1 := hok.e1
  have n1 := numR_fwd (most := 99) k0 s1.left (by omega) (by decide)
  have n2 := numR_fwd (most := 1024) k1 s1.right.left (by omega) (by decide)
  have n3 := numR_fwd (most := 16777216) k2 s1.right.right.left (by omega) (by decide)
  have ho := opS_all hok hl k3 s1.right.right.right ts.length 0 (by omega)
  have hr0 : recs G ev ts 0 = [] := rfl
  rw [hr0, List.length_nil, Nat.add_zero, List.take_zero] at ho
  have hend : 4 + (vb G).length + (vb ev).length + (vb ts.length).length + (tbytes G ev ts).length = b.length := by rw [e]; simp [magicB]; omega
  have htk : b.take 4 = magicB := by rw [e]; rfl
  have n1' : numR b 4 0 99 = (((4 + (vb G).length : Nat) : Int), 0, (G : Int)) := n1
  rw [← hb]
  unfold opnF
  rw [if_pos htk]
  simp only [n1', n2, n3, Int.toNat_natCast]
  rw [if_pos ⟨trivial, by omega⟩, ho]
  dsimp only
  rw [if_pos (by rw [hend])]
theorem opn_nil : opnF [67, 76, 87, 49, 0, 2, 0] = some (0, 2, []) := by
  rw [← pack_nil]; exact opnF_pack (TapeOK.nil (by decide) (by decide) (by decide)) (by decide)
/-- No file is the beginning of another one. -/
theorem pack_end {G ev G' ev' : Nat} {ts us : List Sta} (hok : TapeOK G ev ts) (hl : ((tbytes G ev ts).length : Int) ≤ 16777216) (hok' : TapeOK G' ev' us) (hl' : ((tbytes G' ev' us).length : Int) ≤ 16777216) {r : List Nat} (h : packB G ev ts = packB G' ev' us ++ r) : r = [] := by
  obtain ⟨b, hb⟩ : ∃ b, b = packB G ev ts := ⟨_, rfl⟩
  have hlen := ts_len hl
  have hlen' := ts_len hl'
  have e : b = magicB ++ (vb G ++ (vb ev ++ (vb ts.length ++ tbytes G ev ts))) := by rw [hb]; unfold packB headB; simp [List.append_assoc]
  have e' : b = magicB ++ (vb G' ++ (vb ev' ++ (vb us.length ++ (tbytes G' ev' us ++ r)))) := by rw [hb, h]; unfold packB headB; simp [List.append_assoc]
  have s1 : Sat b 4 (vb G ++ (vb ev ++ (vb ts.length ++ tbytes G ev ts))) := ⟨[], by rw [e, List.append_nil]; rfl⟩
  have s1' : Sat b 4 (vb G' ++ (vb ev' ++ (vb us.length ++ (tbytes G' ev' us ++ r)))) := ⟨[], by rw [e', List.append_nil]; rfl⟩
  have k0 : 4 ≤ b.length := by rw [e]; simp [magicB]
  have hG := hok.g; have he1 := hok.e1; have hG' := hok'.g; have he1' := hok'.e1
  have n1 := numR_fwd (most := 99) k0 s1.left (by omega) (by decide)
  have n1' := numR_fwd (most := 99) k0 s1'.left (by omega) (by decide)
  rw [n1] at n1'
  simp only [Prod.mk.injEq, true_and] at n1'
  obtain rfl : G = G' := by omega
  have k1 := s1.left.len k0
  have s2 := s1.right
  have s2' := s1'.right
  have n2 := numR_fwd (most := 1024) k1 s2.left (by omega) (by decide)
  have n2' := numR_fwd (most := 1024) k1 s2'.left (by omega) (by decide)
  rw [n2] at n2'
  simp only [Prod.mk.injEq, true_and] at n2'
  obtain rfl : ev = ev' := by omega
  have k2 := s2.left.len k1
  have s3 := s2.right
  have s3' := s2'.right
  have n3 := numR_fwd (most := 16777216) k2 s3.left (by omega) (by decide)
  have n3' := numR_fwd (most := 16777216) k2 s3'.left (by omega) (by decide)
  rw [n3] at n3'
  simp only [Prod.mk.injEq, true_and] at n3'
  have hnn : ts.length = us.length := by omega
  have k3 := s3.left.len k2
  have s4 := s3.right
  have s4' := s3'.right
  rw [← hnn] at s4'
  have s4'' := s4'.left
  have o1 := opS_all hok hl k3 s4 ts.length 0 (by omega)
  have o2 := opS_all hok' hl' k3 s4'' us.length 0 (by omega)
  have hr0 : ∀ ts, recs G ev ts 0 = [] := fun _ => rfl
  rw [hr0, List.length_nil, Nat.add_zero, List.take_zero] at o1 o2
  rw [← hnn, o1] at o2
  simp only [Option.some.injEq, Prod.mk.injEq] at o2
  obtain rfl := o2.2
  have hlr := congrArg List.length h
  rw [List.length_append] at hlr
  exact List.eq_nil_of_length_eq_zero (by omega)
theorem pack_cut {G ev : Nat} {ts : List Sta} (hok : TapeOK G ev ts) (hl : ((tbytes G ev ts).length : Int) ≤ 16777216) (hb : ∀ x ∈ packB G ev ts, x < 256) {n : Nat} (hn : n < (packB G ev ts).length) : opnF ((packB G ev ts).take n) = none := by
  cases h : opnF ((packB G ev ts).take n) with
  | none => rfl
  | some q =>
    obtain ⟨G', ev', us⟩ := q
    obtain ⟨h1, h2, h3⟩ := opnF_some (fun x hx => hb x (List.mem_of_mem_take hx)) h
    have h4 : packB G ev ts = packB G' ev' us ++ (packB G ev ts).drop n := by rw [← h3, List.take_append_drop]
    have h5 := pack_end hok hl h1 h2 h4
    have := congrArg List.length h5
    simp at this; omega
theorem packB_byte (G ev : Nat) (ts : List Sta) : ∀ x ∈ packB G ev ts, x < 256 := by
  unfold packB headB
  refine byte_app (byte_app (byte_app (byte_app ?_ (vb_byte _)) (vb_byte _)) (vb_byte _)) (tbytes_byte _ _ _)
  intro x hx
  simp [magicB] at hx
  omega
theorem headB_len {G ev n : Nat} (hG : G ≤ 18446744073709551615) (he : ev ≤ 18446744073709551615) (hn : n ≤ 18446744073709551615) : (headB G ev n).length ≤ 34 := by
  unfold headB
  have h1 := vb_len10 hG; have h2 := vb_len10 he; have h3 := vb_len10 hn
  simp only [List.length_append, magicB, List.length_cons, List.length_nil]; omega
end Go.Proofs.Ytlcglefbhlhcpaa.K
