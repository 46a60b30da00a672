/- What is written is read, and what is read was written: places, states. Plain. -/
import Derived.Test.YtlcglefbhlhcpaaGeU
namespace Go.Proofs.Ytlcglefbhlhcpaa.K
open Go.RowKit
set_option linter.unusedVariables false
theorem mvS_congr {l a b : List Int} : ∀ i, (∀ j, j < i → a[j]? = b[j]?) → mvS l a i = mvS l b i
  | 0, _ => rfl
  | i + 1, h => by
    rw [mvS, mvS, mvS_congr i (fun j hj => h j (by omega)), h i (by omega)]
theorem mvS_rest {l m : List Int} {i : Nat} : ∀ d, (∀ j, i ≤ j → j < i + d → m[j]? = l[j]?) → mvS l m (i + d) = mvS l m i
  | 0, _ => rfl
  | d + 1, h => by
    rw [← Nat.add_assoc, mvS, if_pos (h (i + d) (by omega) (by omega))]
    exact mvS_rest d (fun j h1 h2 => h j h1 (by omega))
theorem plS_keep (b : List Nat) : ∀ (n : Nat) (a : Int) (e idx : Nat) (l : List Int), (plS b n a e idx l).2.2.length = l.length ∧ ∀ j, j < idx → (plS b n a e idx l).2.2[j]? = l[j]?
  | 0, _, _, _, _ => ⟨rfl, fun _ _ => rfl⟩
  | n + 1, a, e, idx, l => by
    rw [plS]; split
    · exact ⟨rfl, fun _ _ => rfl⟩
    · split
      · exact ⟨rfl, fun _ _ => rfl⟩
      · refine ⟨by rw [(plS_keep b n _ _ _ _).1]; simp, fun j hj => ?_⟩
        rw [(plS_keep b n _ _ _ _).2 j (by omega), List.getElem?_set_ne (by omega)]
theorem plS_bwd {b : List Nat} (hb : ∀ x ∈ b, x < 256) {l : List Int} (hl : ∀ x ∈ l, small x) : ∀ (n k e idx : Nat) (l1 : List Int) (a' : Int) (l' : List Int), k ≤ b.length → l1.length = l.length → idx ≤ l.length → (∀ j, idx ≤ j → l1[j]? = l[j]?) →
    plS b n (k : Int) e idx l1 = (a', 0, l') → (∀ x ∈ l', small x) → ∀ o r, mvS l l1 idx = (o, r, idx) → e = 0 ∧ l'.length = l.length ∧ ∃ p la, mvS l l' l.length = (o ++ p, r + n, la) ∧ Sat b k p ∧ a' = ((k + p.length : Nat) : Int)
  | 0, k, e, idx, l1, a', l', hk, hl1, hi, hsame, h, hs, o, r, hm => by
    rw [plS] at h
    simp only [Prod.mk.injEq] at h
    obtain ⟨rfl, rfl, rfl⟩ := h
    refine ⟨rfl, hl1, [], idx, ?_, Sat.nil _ _, by simp⟩
    have := mvS_rest (l := l) (m := l1) (i := idx) (l.length - idx) (fun j h1 _ => hsame j h1)
    rw [show idx + (l.length - idx) = l.length by omega] at this
    rw [this, hm]; simp
  | n + 1, k, e, idx, l1, a', l', hk, hl1, hi, hsame, h, hs, o, r, hm => by
    obtain ⟨a1, e1, v, hn⟩ : ∃ a1 e1 v, numR b (k : Int) e (max ((l1.length : Int) - 1 - idx) 0) = (a1, e1, v) := ⟨_, _, _, rfl⟩
    by_cases he1 : e1 = 0
    · by_cases hlt : idx < l1.length
      · subst he1
        obtain ⟨he, f, rfl, hf, hsf, ha1⟩ := numR_bwd hb hk hn
        have hxi : l1[idx + f]? = some (l[idx + f]'(by omega)) := by rw [hsame _ (by omega)]; exact List.getElem?_eq_getElem _
        have hxl : l[idx + f]? = some (l[idx + f]'(by omega)) := List.getElem?_eq_getElem _
        have hxs : small (l[idx + f]'(by omega)) := hl _ (List.getElem_mem _)
        have hgo := plS_go (k := n) hn rfl hlt (x := l[idx + f]'(by omega)) (by simpa using hxi)
        rw [hgo] at h
        obtain ⟨a2, e2, z, hz⟩ : ∃ a2 e2 z, morR b a1 0 = (a2, e2, z) := ⟨_, _, _, rfl⟩
        rw [hz] at h
        simp only [Int.toNat_natCast] at h
        have he2 : e2 = 0 := by
          by_cases h2 : e2 = 0
          · exact h2
          · rw [plS_bad h2] at h; simp only [Prod.mk.injEq] at h; omega
        subst he2
        subst ha1
        obtain ⟨_, u, hu0, hu1, hv, hsu, ha2⟩ := morR_bwd hb (hsf.len hk) hz
        subst ha2
        have hk2 := hsu.len (hsf.len hk)
        obtain ⟨y, hy⟩ : ∃ y, y = IntKind.i64.wrap ((l[idx + f]'(by omega)) + z) := ⟨_, rfl⟩
        rw [← hy] at h
        have hkeep := (plS_keep b n (((k + (vb f).length + (vb u).length : Nat)) : Int) 0 (idx + f + 1) (l1.set (idx + f) y)).2 (idx + f) (by omega)
        rw [h] at hkeep
        dsimp only at hkeep
        rw [List.getElem?_set_self (by omega)] at hkeep
        have hys : small y := hs _ (List.mem_iff_getElem?.2 ⟨_, hkeep⟩)
        have hsub := wrap_sub hxs hys (hv ▸ zag_in hu1) hy.symm
        have hne : y ≠ (l[idx + f]'(by omega)) := by
          intro heq
          have : zag u = 0 := by rw [← hv, ← hsub, heq]; omega
          rw [zag_zero] at this; omega
        have hm2 : mvS l (l1.set (idx + f) y) (idx + f) = (o, r, idx) := by
          rw [mvS_rest f (fun j h1 h2 => by rw [List.getElem?_set_ne (by omega)]; exact hsame j h1), ← hm]
          exact mvS_congr idx (fun j hj => List.getElem?_set_ne (by omega))
        have hm3 := mvS_step hm2 (List.getElem?_set_self (by omega)) hxl hne
        rw [hsub, hv, zig_zag, show idx + f - idx = f by omega] at hm3
        obtain ⟨_, hlen, p, la, hp, hsp, hap⟩ := plS_bwd hb hl n (k + (vb f).length + (vb u).length) 0 (idx + f + 1) (l1.set (idx + f) y) a' l' hk2 (by simpa using hl1) (by omega) (fun j hj => by rw [List.getElem?_set_ne (by omega)]; exact hsame j (by omega)) h hs _ _ hm3
        refine ⟨he, hlen, vb f ++ (vb u ++ p), la, ?_, hsf.app (hsu.app hsp), ?_⟩
        · rw [hp]; simp [Nat.add_comm, Nat.add_left_comm]
        · rw [hap]; simp only [List.length_append]; omega
      · rw [plS_far hn he1 (by omega)] at h; simp at h
    · rw [plS_err hn he1] at h; simp only [Prod.mk.injEq] at h; omega
theorem plS_fwd {b : List Nat} {l l' : List Int} (hl : ∀ x ∈ l, small x) (hl' : ∀ x ∈ l', small x) (hlen : l.length = l'.length) (h200 : l.length ≤ 65536) : ∀ (d i : Nat), i + d = l'.length → ∀ (o : List Nat) (n la : Nat), mvS l l' i = (o, n, la) → la ≤ i → (∀ j, la ≤ j → j < i → l[j]? = l'[j]?) → ∀ O N LA, mvS l l' l'.length = (O, N, LA) →
    ∃ r, O = o ++ r ∧ n ≤ N ∧ ∀ k, k ≤ b.length → Sat b k r → plS b (N - n) (k : Int) 0 la (l'.take i ++ l.drop i) = (((k + r.length : Nat) : Int), 0, l')
  | 0, i, hd, o, n, la, hm, hla, hg, O, N, LA, hM => by
    obtain rfl : i = l'.length := by omega
    rw [hm] at hM
    simp only [Prod.mk.injEq] at hM
    obtain ⟨rfl, rfl, rfl⟩ := hM
    refine ⟨[], by simp, Nat.le_refl _, fun k hk _ => ?_⟩
    rw [Nat.sub_self, plS, List.take_length, List.drop_of_length_le (by omega), List.append_nil]; rfl
  | d + 1, i, hd, o, n, la, hm, hla, hg, O, N, LA, hM => by
    have hx : l'[i]? = some (l'[i]'(by omega)) := List.getElem?_eq_getElem _
    have hy : l[i]? = some (l[i]'(by omega)) := List.getElem?_eq_getElem _
    have hstep : ∀ (y : Int), l'[i]? = some y → (l'.take i ++ l.drop i).set i y = l'.take (i + 1) ++ l.drop (i + 1) := by
      intro y hy'
      apply List.ext_getElem?
      intro j
      rw [List.getElem?_set]
      by_cases hji : i = j
      · subst hji
        rw [if_pos rfl, if_pos (by simp; omega), List.getElem?_append_left (by simp; omega), List.getElem?_take, if_pos (by omega), hy']
      · rw [if_neg hji]
        simp only [List.getElem?_append, List.length_take, List.getElem?_take, List.getElem?_drop]
        by_cases h1 : j < i
        · rw [if_pos (by omega), if_pos h1, if_pos (by omega), if_pos (by omega)]
        · rw [if_neg (by omega), if_neg (by omega)]; congr 1; omega
    by_cases he : l'[i]? = l[i]?
    · obtain ⟨r, h1, h2, h3⟩ := plS_fwd hl hl' hlen h200 d (i + 1) (by omega) o n la (mvS_same hm he) (by omega) (fun j h1 h2 => by
        by_cases hji : j = i
        · subst hji; exact he.symm
        · exact hg j h1 (by omega)) O N LA hM
      refine ⟨r, h1, h2, fun k hk hs => ?_⟩
      have hself : (l'.take i ++ l.drop i).set i (l'[i]'(by omega)) = l'.take i ++ l.drop i := set_self (by
        rw [List.getElem?_append_right (by simp; omega), List.length_take, List.getElem?_drop, show i + (i - min i l'.length) = i by omega, ← he]; exact hx)
      rw [← hself, hstep _ hx]
      exact h3 k hk hs
    · have hne : (l'[i]'(by omega)) ≠ (l[i]'(by omega)) := fun h => he (by rw [hx, hy, h])
      have hst := mvS_step hm hx hy hne
      obtain ⟨r, h1, h2, h3⟩ := plS_fwd hl hl' hlen h200 d (i + 1) (by omega) _ _ (i + 1) hst (Nat.le_refl _) (fun j h1 h2 => by omega) O N LA hM
      refine ⟨vb (i - la) ++ (vb (zig ((l'[i]'(by omega)) - (l[i]'(by omega)))) ++ r), by rw [h1]; simp, by omega, fun k hk hs => ?_⟩
      have hll : (l'.take i ++ l.drop i).length = l.length := by simp; omega
      have hz := zig_small (hl' _ (List.getElem_mem (by omega : i < l'.length))) (hl _ (List.getElem_mem (by omega : i < l.length)))
      have hnum := numR_fwd (n := i - la) (most := max (((l'.take i ++ l.drop i).length : Int) - 1 - la) 0) hk hs.left (by rw [hll]; omega) (by rw [hll]; omega)
      have hk1 := hs.left.len hk
      have hmor := morR_fwd hk1 hs.right.left (zig_pos' (by omega)) (zig_le hz.1 hz.2)
      have hk2 := hs.right.left.len hk1
      rw [show N - n = (N - (n + 1)) + 1 by omega, plS_go hnum rfl (by rw [hll]; omega) (x := l[i]'(by omega)) (by
        rw [Int.toNat_natCast, show la + (i - la) = i by omega, List.getElem?_append_right (by simp; omega), List.length_take, List.getElem?_drop, show i + (i - min i l'.length) = i by omega]; exact hy), hmor]
      dsimp only
      rw [Int.toNat_natCast, show la + (i - la) = i by omega, zag_zig, wrap_add (hl' _ (List.getElem_mem _)), hstep _ hx, h3 _ hk2 hs.right.right]
      simp only [List.length_append, Prod.mk.injEq, and_true]
      congr 1; omega
/-! a state -/
theorem Sta.tails (s : Sta) : s.nums.tail = [s.node, s.phase, s.pos, s.start, s.depth, s.org] := rfl
theorem tail_small {s : Sta} (h : ∀ x ∈ s.nums, small x) : ∀ x ∈ s.nums.tail, small x := fun x hx => h x (List.mem_of_mem_tail hx)
theorem sat_vb_len {b : List Nat} {k n : Nat} (h : Sat b k (vb n)) (hk : k ≤ b.length) : k + 1 ≤ b.length := by
  have := h.len hk; have := vb_pos n; omega
theorem rdF_bwd {s t : Sta} {b : List Nat} {k : Nat} {a' : Int} (hB : s.base) (hb : ∀ x ∈ b, x < 256) (hk : k ≤ b.length) (h : rdF s b (k : Int) = (a', 0, t)) (hR : t.Right s.groups) : Sat b k (rec18 s t) ∧ a' = ((k + (rec18 s t).length : Nat) : Int) := by
  obtain ⟨hsn, hsc⟩ := base_small hB
  obtain ⟨htn, htc⟩ := right_small hR
  obtain ⟨hlen, h200, _, _⟩ := right_len hB hR
  obtain ⟨a1, e1, kd, h1⟩ : ∃ a1 e1 kd, numR b (k : Int) 0 14 = (a1, e1, kd) := ⟨_, _, _, rfl⟩
  obtain ⟨a2, e2, mz, h2⟩ : ∃ a2 e2 mz, numR b a1 e1 127 = (a2, e2, mz) := ⟨_, _, _, rfl⟩
  have hmz := numR_ge b a1 e1 127 (by decide)
  rw [h2] at hmz
  dsimp only at hmz
  obtain ⟨mk, rfl⟩ : ∃ mk : Nat, mz = (mk : Int) := ⟨mz.toNat, by omega⟩
  obtain ⟨a3, e3, q3, h3⟩ : ∃ a3 e3 q3, flS b mk a2 e2 s.nums.tail 6 = (a3, e3, q3) := ⟨_, _, _, rfl⟩
  have hsh := flS_shape b mk a2 e2 s.nums.tail 6
  rw [h3] at hsh
  have hq3 : q3.length = 6 := hsh.1
  obtain ⟨x0, x1, x2, x3, x4, x5, rfl⟩ : ∃ x0 x1 x2 x3 x4 x5, q3 = [x0, x1, x2, x3, x4, x5] := by
    match q3, hq3 with
    | [x0, x1, x2, x3, x4, x5], _ => exact ⟨_, _, _, _, _, _, rfl⟩
  obtain ⟨a4, e4, cs, h4⟩ : ∃ a4 e4 cs, (if mk < 64 then (a3, e3, s.caps) else plR b a3 e3 s.caps) = (a4, e4, cs) := ⟨_, _, _, rfl⟩
  rw [rdF_of h1 h2 h3 h4] at h
  simp only [Prod.mk.injEq] at h
  obtain ⟨rfl, rfl, rfl⟩ := h
  have hq : ∀ x ∈ [x0, x1, x2, x3, x4, x5], small x := fun x hx => htn x (List.mem_cons_of_mem _ hx)
  have he3 : e3 = 0 := by
    by_cases h5 : e3 = 0
    · exact h5
    · by_cases h6 : mk < 64
      · rw [if_pos h6] at h4; simp only [Prod.mk.injEq] at h4; exact h4.2.1
      · rw [if_neg h6, plR_bad h5] at h4; simp only [Prod.mk.injEq] at h4; exact h4.2.1
  subst he3
  have he2 : e2 = 0 := by
    by_cases h5 : e2 = 0
    · exact h5
    · exfalso
      have : ∀ i, (flS b mk a2 e2 s.nums.tail i).2.1 = e2 := by
        intro i
        induction i with
        | zero => rfl
        | succ i ih =>
          rw [flS]; split
          · dsimp only; rw [ih, morR_bad h5]
          · exact ih
      have h6 := this 6
      rw [h3] at h6
      exact h5 h6.symm
  subst he2
  have he1 : e1 = 0 := by
    by_cases h5 : e1 = 0
    · exact h5
    · rw [numR_bad h5] at h2; simp only [Prod.mk.injEq] at h2; exact absurd h2.2.1 h5
  subst he1
  obtain ⟨_, kn, rfl, hkn, hs1, ha1⟩ := numR_bwd hb hk h1
  subst ha1
  have hk1 := hs1.len hk
  obtain ⟨_, mk', hmk, hmk2, hs2, ha2⟩ := numR_bwd hb hk1 h2
  obtain rfl : mk = mk' := by omega
  subst ha2
  have hk2 := hs2.len hk1
  obtain ⟨_, o, hn, hso, ha3⟩ := flS_bwd hb (tail_small hsn) hk2 6 (by simp [Sta.nums]) a3 _ h3 hq
  subst ha3
  have hk3 := hso.len hk2
  have hmm : mk / 64 % 2 * 64 + mk % 64 = mk := by omega
  by_cases h6 : mk < 64
  · rw [if_pos h6] at h4
    simp only [Prod.mk.injEq, true_and] at h4
    obtain ⟨rfl, rfl⟩ := h4
    have hmv : mvS s.caps s.caps s.caps.length = ([], 0, 0) := by
      have := mvS_rest (l := s.caps) (m := s.caps) (i := 0) s.caps.length (fun j _ _ => rfl)
      rw [Nat.zero_add] at this; rw [this]; rfl
    have hrec : rec18 s ⟨(kn : Int), x0, x1, x2, x3, x4, x5, s.caps⟩ = vb kn ++ vb mk ++ o := by
      unfold rec18
      simp only [Sta.tails, Int.toNat_natCast, hmv]
      rw [show [s.node, s.phase, s.pos, s.start, s.depth, s.org] = s.nums.tail from rfl, hn]
      simp only [Nat.lt_irrefl, if_false, List.append_nil]
      rw [show mk % 2 ^ 6 + 0 = mk by omega]
    rw [hrec]
    exact ⟨(hs1.app hs2).app (by rw [List.length_append, ← Nat.add_assoc]; exact hso), by congr 1; simp only [List.length_append]; omega⟩
  · rw [if_neg h6] at h4
    unfold plR at h4
    obtain ⟨a5, e5, cz, h5⟩ : ∃ a5 e5 cz, numR b ((k + (vb kn).length + (vb mk).length + o.length : Nat) : Int) 0 (s.caps.length : Int) = (a5, e5, cz) := ⟨_, _, _, rfl⟩
    rw [h5] at h4
    dsimp only at h4
    have he5 : e5 = 0 ∧ cz ≠ 0 := by
      by_cases h7 : (if cz = 0 ∧ e5 = 0 then 11 else e5) = 0
      · by_cases h8 : cz = 0 ∧ e5 = 0
        · rw [if_pos h8] at h7; omega
        · rw [if_neg h8] at h7; exact ⟨h7, fun h9 => h8 ⟨h9, h7⟩⟩
      · rw [plS_bad h7] at h4; simp only [Prod.mk.injEq] at h4; exact absurd h4.2.1 h7
    obtain ⟨rfl, hcz⟩ := he5
    rw [if_neg (by omega)] at h4
    obtain ⟨_, cn, rfl, hcn, hs5, ha5⟩ := numR_bwd hb hk3 h5
    subst ha5
    rw [Int.toNat_natCast] at h4
    obtain ⟨_, hl', p, la, hmv, hsp, ha4⟩ := plS_bwd hb hsc cn _ 0 0 s.caps a4 cs (hs5.len hk3) rfl (Nat.zero_le _) (fun _ _ => rfl) h4 htc [] 0 rfl
    subst ha4
    rw [List.nil_append, Nat.zero_add] at hmv
    have hmv2 : mvS s.caps cs cs.length = (p, cn, la) := by rw [hl']; exact hmv
    have hrec : rec18 s ⟨(kn : Int), x0, x1, x2, x3, x4, x5, cs⟩ = vb kn ++ vb mk ++ (o ++ (vb cn ++ p)) := by
      unfold rec18 mvR
      simp only [Sta.tails, Int.toNat_natCast, hmv2]
      rw [show [s.node, s.phase, s.pos, s.start, s.depth, s.org] = s.nums.tail from rfl, hn]
      rw [if_pos (by omega), if_pos (by omega)]
      dsimp only
      rw [show mk % 2 ^ 6 + 64 = mk by omega]
    rw [hrec]
    refine ⟨(hs1.app hs2).app (by rw [List.length_append, ← Nat.add_assoc]; exact hso.app (hs5.app hsp)), by congr 1; simp only [List.length_append]; omega⟩
theorem rdF_fwd {s t : Sta} {b : List Nat} {k : Nat} (hB : s.base) (hk : k ≤ b.length) (hR : t.Right s.groups) (h : Sat b k (rec18 s t)) : rdF s b (k : Int) = (((k + (rec18 s t).length : Nat) : Int), 0, t) := by
  obtain ⟨hsn, hsc⟩ := base_small hB
  obtain ⟨htn, htc⟩ := right_small hR
  obtain ⟨hlen, h200, hk1, hk14⟩ := right_len hB hR
  obtain ⟨O, M, hn⟩ : ∃ O M, numS s.nums.tail t.nums.tail 6 = (O, M) := ⟨_, _, rfl⟩
  obtain ⟨P, N, LA, hm⟩ : ∃ P N LA, mvS s.caps t.caps t.caps.length = (P, N, LA) := ⟨_, _, _, rfl⟩
  have hM : M < 64 := by have := numS_lt s.nums.tail t.nums.tail 6; rw [hn] at this; exact this
  obtain ⟨mk, hmk⟩ : ∃ mk, mk = M + (if 0 < N then 64 else 0) := ⟨_, rfl⟩
  have hmk2 : mk < 128 := by rw [hmk]; split <;> omega
  have hrec : rec18 s t = vb t.kind.toNat ++ (vb mk ++ (O ++ (if 0 < N then vb N ++ P else []))) := by
    unfold rec18 mvR
    rw [hn, hm]
    dsimp only
    rw [← hmk, List.append_assoc]
  rw [hrec] at h ⊢
  have s1 := h.left
  have s2 := h.right.left
  have s3 := h.right.right.left
  have s4 := h.right.right.right
  have k1 := s1.len hk
  have k2 := s2.len k1
  have k3 := s3.len k2
  have h1 := numR_fwd (most := 14) hk s1 (by omega) (by decide)
  have h2 := numR_fwd (most := 127) k1 s2 (by omega) (by decide)
  have hbit : ∀ j, j < 6 → (mk / 2 ^ j % 2 = 1 ↔ s.nums.tail[j]? ≠ t.nums.tail[j]?) := by
    intro j hj
    have := numS_bit s.nums.tail t.nums.tail 6 j hj
    rw [hn] at this
    dsimp only at this
    rw [← this, hmk]
    split
    · have e : (64 : Nat) = 2 ^ j * (2 * 2 ^ (6 - j - 1)) := by rw [← Nat.pow_succ', ← Nat.pow_add]; rw [show j + (6 - j - 1).succ = 6 by omega]
      rw [e, Nat.add_mul_div_left _ _ (Nat.two_pow_pos _), Nat.add_mul_mod_self_left]
    · rw [Nat.add_zero]
  have h3 := flS_fwd (mk := mk) (N := 6) k2 (tail_small hsn) (tail_small htn) (by simp [Sta.nums]) (by simp [Sta.nums]) hbit (by rw [hn]; exact s3) 6 (Nat.le_refl _)
  rw [hn] at h3
  have hq : t.nums.tail.take 6 ++ s.nums.tail.drop 6 = [t.node, t.phase, t.pos, t.start, t.depth, t.org] := rfl
  rw [hq] at h3
  have hkd : ((t.kind.toNat : Nat) : Int) = t.kind := by omega
  by_cases hN : 0 < N
  · rw [if_pos hN] at s4 hmk ⊢
    have hNle : N ≤ t.caps.length := by have := (mvS_le s.caps t.caps t.caps.length).2; rw [hm] at this; exact this
    have h5 := numR_fwd (n := N) (most := (s.caps.length : Int)) k3 s4.left (by omega) (by omega)
    obtain ⟨r, hr1, _, hr2⟩ := plS_fwd (b := b) hsc htc hlen (by omega) t.caps.length 0 (by omega) [] 0 0 rfl (Nat.le_refl _) (fun j h1 h2 => by omega) P N LA hm
    rw [List.nil_append] at hr1
    subst hr1
    have h6 := hr2 _ (s4.left.len k3) s4.right
    rw [Nat.sub_zero, List.take_zero, List.nil_append, List.drop_zero] at h6
    rw [rdF_of h1 h2 h3 (a4 := ((k + (vb t.kind.toNat).length + (vb mk).length + O.length + (vb N).length + P.length : Nat) : Int)) (e4 := 0) (cs := t.caps) (by
      rw [if_neg (by omega)]; unfold plR; rw [h5]; dsimp only; rw [if_neg (by omega), Int.toNat_natCast, h6])]
    rw [hkd]
    simp only [Prod.mk.injEq]
    refine ⟨by congr 1; simp only [List.length_append]; omega, trivial⟩
  · rw [if_neg hN] at hmk ⊢
    obtain rfl : N = 0 := by omega
    have hcs : s.caps = t.caps := by
      apply List.ext_getElem?
      intro j
      by_cases hj : j < t.caps.length
      · by_cases he : t.caps[j]? = s.caps[j]?
        · exact he.symm
        · exfalso
          have hz : ∀ d i, i + d = t.caps.length → (mvS s.caps t.caps i).2.1 ≤ (mvS s.caps t.caps t.caps.length).2.1 := by
            intro d
            induction d with
            | zero => intro i hi; rw [show i = t.caps.length by omega]; exact Nat.le_refl _
            | succ d ih =>
              intro i hi
              refine Nat.le_trans ?_ (ih (i + 1) (by omega))
              rw [mvS.eq_2]; split
              · exact Nat.le_refl _
              · exact Nat.le_succ _
          have h7 := hz (t.caps.length - (j + 1)) (j + 1) (by omega)
          rw [hm, mvS, if_neg he] at h7
          simp at h7
      · rw [List.getElem?_eq_none (by omega), List.getElem?_eq_none (by omega)]
    rw [rdF_of h1 h2 h3 (a4 := ((k + (vb t.kind.toNat).length + (vb mk).length + O.length : Nat) : Int)) (e4 := 0) (cs := t.caps) (by rw [if_pos (by omega), hcs])]
    rw [hkd]
    simp only [Prod.mk.injEq]
    refine ⟨by congr 1; simp only [List.length_append, List.length_nil]; omega, trivial⟩
theorem rec18_two (s t : Sta) : 2 ≤ (rec18 s t).length := by
  unfold rec18
  simp only [List.length_append]
  have h1 := vb_pos t.kind.toNat
  have h2 := vb_pos ((numS s.nums.tail t.nums.tail 6).2 + if 0 < (mvS s.caps t.caps t.caps.length).2.1 then 64 else 0)
  omega
end Go.Proofs.Ytlcglefbhlhcpaa.K
