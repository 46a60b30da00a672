/- What is written is read, and what is read was written: plain. -/
import Derived.Test.YtlcglefbhlhcpaaGeT
namespace Go.Proofs.Ytlcglefbhlhcpaa.K
open Go.RowKit
set_option linter.unusedVariables false
/-- At a place these bytes stand. -/
def Sat (b : List Nat) (k : Nat) (x : List Nat) : Prop := ∃ r, b.drop k = x ++ r
theorem Sat.nil (b : List Nat) (k : Nat) : Sat b k [] := ⟨_, rfl⟩
theorem Sat.app {b x y : List Nat} {k : Nat} (h : Sat b k x) (h2 : Sat b (k + x.length) y) : Sat b k (x ++ y) := by
  obtain ⟨r, hr⟩ := h; obtain ⟨q, hq⟩ := h2
  refine ⟨q, ?_⟩
  have : b.drop (k + x.length) = r := by rw [← List.drop_drop, hr, List.drop_left]
  rw [hr, List.append_assoc, ← hq, this]
theorem Sat.left {b x y : List Nat} {k : Nat} (h : Sat b k (x ++ y)) : Sat b k x := by
  obtain ⟨r, hr⟩ := h; exact ⟨y ++ r, by rw [hr, List.append_assoc]⟩
theorem Sat.right {b x y : List Nat} {k : Nat} (h : Sat b k (x ++ y)) : Sat b (k + x.length) y := by
  obtain ⟨r, hr⟩ := h; exact ⟨r, by rw [← List.drop_drop, hr, List.append_assoc, List.drop_left]⟩
theorem Sat.len {b x : List Nat} {k : Nat} (h : Sat b k x) (hk : k ≤ b.length) : k + x.length ≤ b.length := by
  obtain ⟨r, hr⟩ := h
  have := congrArg List.length hr
  simp only [List.length_drop, List.length_append] at this
  omega
theorem Sat.take {b x : List Nat} {k : Nat} (h : Sat b k x) : (b.drop k).take x.length = x := by
  obtain ⟨r, hr⟩ := h; rw [hr, List.take_left]
theorem Sat.mid (h x t : List Nat) : Sat (h ++ x ++ t) h.length x := ⟨t, by rw [List.append_assoc, List.drop_left]⟩
theorem acc_mul (m p : Nat) : m % 128 * p + m / 128 * (p * 128) = m * p := by
  have h : m * p = (128 * (m / 128) + m % 128) * p := by rw [Nat.div_add_mod]
  rw [h, Nat.add_mul, Nat.mul_comm 128 (m / 128), Nat.mul_assoc, Nat.mul_comm 128 p, Nat.add_comm]
theorem gv_fwd : ∀ (m i acc : Nat) (r : List Nat), i ≤ 9 → acc + m * 128 ^ i ≤ 18446744073709551615 → (0 < i → 0 < m) → gv i acc (vb m ++ r) = (acc + m * 128 ^ i, i + (vb m).length, 0) := by
  intro m
  induction m using Nat.strongRecOn with
  | ind m ih =>
    intro i acc r hi hb hp
    by_cases hm : m < 128
    · have h2 : ¬ ((i = 9 ∧ 1 < m % 128) ∨ (0 < i ∧ m = 0) ∨ (i = 9 ∧ 128 ≤ m)) := by
        rintro (⟨rfl, h⟩ | ⟨h1, h2⟩ | ⟨rfl, h⟩)
        · rw [pow9] at hb; omega
        · have := hp h1; omega
        · omega
      rw [vb_low hm, List.singleton_append, gv, if_neg (by omega), if_neg h2, if_pos hm, Nat.mod_eq_of_lt hm]; rfl
    · have hm' : 128 ≤ m := by omega
      have hx : i ≤ 8 := by
        rcases Nat.lt_or_ge i 9 with h | h
        · omega
        · obtain rfl : i = 9 := by omega
          rw [pow9] at hb; omega
      have h2 : ¬ ((i = 9 ∧ 1 < (m % 128 + 128) % 128) ∨ (0 < i ∧ (m % 128 + 128) = 0) ∨ (i = 9 ∧ 128 ≤ (m % 128 + 128))) := by omega
      have e := acc_mul m (128 ^ i)
      rw [vb_high hm', List.cons_append, gv, if_neg (by omega), if_neg h2, if_neg (by omega), ih (m / 128) (by omega) (i + 1) _ r (by omega) (by rw [Nat.pow_succ, Nat.add_mod_right, Nat.mod_mod]; omega) (by omega), Nat.pow_succ, Nat.add_mod_right, Nat.mod_mod]
      simp only [List.length_cons, Prod.mk.injEq, and_true]
      omega
theorem gv_bwd : ∀ (bs : List Nat) (i acc v n : Nat), (∀ x ∈ bs, x < 256) → gv i acc bs = (v, n, 0) → ∃ m r, bs = vb m ++ r ∧ v = acc + m * 128 ^ i ∧ n = i + (vb m).length ∧ (0 < i → 0 < m)
  | [], i, acc, v, n, _, h => by rw [gv] at h; split at h <;> simp at h
  | x :: bs, i, acc, v, n, hb, h => by
    rw [gv] at h
    split at h
    · simp at h
    · split at h
      · simp at h
      · rename_i h1 h2
        split at h
        · rename_i h3
          simp only [Prod.mk.injEq, and_true] at h
          refine ⟨x, bs, by rw [vb_low h3]; rfl, ?_, ?_, fun h0 => by omega⟩
          · rw [← h.1, Nat.mod_eq_of_lt h3]
          · rw [vb_low h3, ← h.2]; rfl
        · rename_i h3
          obtain ⟨m, r, e1, e2, e3, e4⟩ := gv_bwd bs (i + 1) _ v n (fun y hy => hb y (List.mem_cons_of_mem _ hy)) h
          have hx := hb x List.mem_cons_self
          have hm := e4 (by omega)
          have hd : (m * 128 + x % 128) / 128 = m := by omega
          have hmm : (m * 128 + x % 128) % 128 + 128 = x := by omega
          refine ⟨m * 128 + x % 128, r, ?_, ?_, ?_, fun _ => by omega⟩
          · rw [vb_high (by omega), hd, hmm, e1]; rfl
          · have := acc_mul (m * 128 + x % 128) (128 ^ i)
            rw [hd] at this
            have e5 : (m * 128 + x % 128) % 128 = x % 128 := by omega
            rw [e5] at this
            rw [e2, Nat.pow_succ]; omega
          · rw [vb_high (by omega), hd, e3, List.length_cons]; omega
theorem getV_fwd {b : List Nat} {k n : Nat} (hk : k ≤ b.length) (h : Sat b k (vb n)) (hn : n ≤ 18446744073709551615) : getV b (k : Int) = (n, (vb n).length, 0) := by
  obtain ⟨r, hr⟩ := h
  rw [getV_at hk, hr, gv_fwd n 0 0 r (by decide) (by simpa using hn) (by omega)]
  simp
theorem getV_bwd {b : List Nat} {k v n : Nat} (hb : ∀ x ∈ b, x < 256) (hk : k ≤ b.length) (h : getV b (k : Int) = (v, n, 0)) : Sat b k (vb v) ∧ n = (vb v).length := by
  rw [getV_at hk] at h
  obtain ⟨m, r, h1, h2, h3, _⟩ := gv_bwd _ 0 0 v n (fun x hx => hb x (List.mem_of_mem_drop hx)) h
  have : v = m := by simpa using h2
  subst this
  exact ⟨⟨r, h1⟩, by simpa using h3⟩
theorem numR_fwd {b : List Nat} {k n : Nat} {most : Int} (hk : k ≤ b.length) (h : Sat b k (vb n)) (hn : (n : Int) ≤ most) (hm : most ≤ 9223372036854775807) : numR b (k : Int) 0 most = (((k + (vb n).length : Nat) : Int), 0, (n : Int)) := by
  unfold numR
  rw [getV_fwd hk h (by omega), if_neg (by decide), if_neg (by simp), if_neg (by dsimp only; omega)]
  simp
theorem numR_bwd {b : List Nat} {k e : Nat} {most a' v : Int} (hb : ∀ x ∈ b, x < 256) (hk : k ≤ b.length) (h : numR b (k : Int) e most = (a', 0, v)) : e = 0 ∧ ∃ n : Nat, v = (n : Int) ∧ (n : Int) ≤ most ∧ Sat b k (vb n) ∧ a' = ((k + (vb n).length : Nat) : Int) := by
  unfold numR at h
  split at h
  · simp only [Prod.mk.injEq] at h; omega
  · split at h
    · simp only [Prod.mk.injEq] at h; omega
    · split at h
      · simp at h
      · rename_i h1 h2 h3
        obtain ⟨p, q, r, hg⟩ : ∃ p q r, getV b (k : Int) = (p, q, r) := ⟨_, _, _, rfl⟩
        rw [hg] at h h2 h3
        obtain rfl : r = 0 := by simpa using h2
        obtain ⟨h4, h5⟩ := getV_bwd hb hk hg
        simp only [Prod.mk.injEq] at h
        refine ⟨by omega, p, h.2.2.symm, by dsimp only at h3; omega, h4, ?_⟩
        rw [← h.1, h5]; simp
theorem morR_fwd {b : List Nat} {k u : Nat} (hk : k ≤ b.length) (h : Sat b k (vb u)) (h0 : 0 < u) (hu : u ≤ 18446744073709551615) : morR b (k : Int) 0 = (((k + (vb u).length : Nat) : Int), 0, zag u) := by
  unfold morR
  rw [getV_fwd hk h hu, if_neg (by decide), if_neg (by simp), if_neg (by dsimp only; omega)]
  simp
theorem morR_bwd {b : List Nat} {k e : Nat} {a' v : Int} (hb : ∀ x ∈ b, x < 256) (hk : k ≤ b.length) (h : morR b (k : Int) e = (a', 0, v)) : e = 0 ∧ ∃ u : Nat, 0 < u ∧ u ≤ 18446744073709551615 ∧ v = zag u ∧ Sat b k (vb u) ∧ a' = ((k + (vb u).length : Nat) : Int) := by
  unfold morR at h
  have hle := getV_le b (k : Int)
  split at h
  · simp only [Prod.mk.injEq] at h; omega
  · split at h
    · simp only [Prod.mk.injEq] at h; omega
    · split at h
      · simp at h
      · rename_i h1 h2 h3
        obtain ⟨p, q, r, hg⟩ : ∃ p q r, getV b (k : Int) = (p, q, r) := ⟨_, _, _, rfl⟩
        rw [hg] at h h2 h3 hle
        obtain rfl : r = 0 := by simpa using h2
        obtain ⟨h4, h5⟩ := getV_bwd hb hk hg
        simp only [Prod.mk.injEq] at h
        dsimp only at h3 hle
        refine ⟨by omega, p, by omega, hle, h.2.2.symm, h4, ?_⟩
        rw [← h.1, h5]; simp
theorem zig_zag (u : Nat) : zig (zag u) = u := by
  unfold zig zag
  by_cases h : u % 2 = 0
  · rw [if_pos h, if_pos (by omega)]; omega
  · rw [if_neg h, if_neg (by omega)]; omega
theorem zag_zig (x : Int) : zag (zig x) = x := by
  unfold zig
  by_cases h : 0 ≤ x
  · rw [if_pos h]; unfold zag; rw [if_pos (by omega)]; omega
  · rw [if_neg h]; unfold zag; rw [if_neg (by omega)]; omega
theorem zig_pos' {x : Int} (h : x ≠ 0) : 0 < zig x := by unfold zig; split <;> omega
theorem zag_in {u : Nat} (h : u ≤ 18446744073709551615) : -9223372036854775808 ≤ zag u ∧ zag u ≤ 9223372036854775807 := by unfold zag; split <;> omega
theorem wrap_sub {x y z : Int} (hx : small x) (hy : small y) (hz : -9223372036854775808 ≤ z ∧ z ≤ 9223372036854775807) (h : IntKind.i64.wrap (x + z) = y) : y - x = z := by
  rw [wrap_i64] at h; unfold small at hx hy; omega
theorem wrap_add {x y : Int} (hy : small y) : IntKind.i64.wrap (x + (y - x)) = y := by
  rw [wrap_i64]; unfold small at hy; omega
/-! the numbers -/
theorem flS_shape (b : List Nat) (mk : Nat) (a : Int) (e : Nat) (q : List Int) : ∀ i, (flS b mk a e q i).2.2.length = q.length ∧ ∀ j, i ≤ j → (flS b mk a e q i).2.2[j]? = q[j]?
  | 0 => ⟨rfl, fun _ _ => rfl⟩
  | i + 1 => by
    have ih := flS_shape b mk a e q i
    rw [flS]; split
    · refine ⟨by simp [ih.1], fun j hj => ?_⟩
      dsimp only
      rw [List.getElem?_set_ne (by omega)]; exact ih.2 j (by omega)
    · exact ⟨ih.1, fun j hj => ih.2 j (by omega)⟩
theorem numS_congr {q a b : List Int} : ∀ i, (∀ j, j < i → a[j]? = b[j]?) → numS q a i = numS q b i
  | 0, _ => rfl
  | i + 1, h => by
    rw [numS, numS, numS_congr i (fun j hj => h j (by omega)), h i (by omega)]
theorem pow_bit (i mk : Nat) : mk % 2 ^ (i + 1) = mk % 2 ^ i + mk / 2 ^ i % 2 * 2 ^ i := by
  rw [Nat.pow_succ, Nat.mod_mul, Nat.mul_comm (2 ^ i)]
theorem flS_bwd {b : List Nat} {mk k e : Nat} {q : List Int} (hb : ∀ x ∈ b, x < 256) (hq : ∀ x ∈ q, small x) (hk : k ≤ b.length) : ∀ i, i ≤ q.length → ∀ a' q', flS b mk (k : Int) e q i = (a', 0, q') → (∀ x ∈ q', small x) →
    e = 0 ∧ ∃ o, numS q q' i = (o, mk % 2 ^ i) ∧ Sat b k o ∧ a' = ((k + o.length : Nat) : Int)
  | 0, _, a', q', h, _ => by
    rw [flS] at h
    simp only [Prod.mk.injEq] at h
    refine ⟨h.2.1, [], by simp [numS, Nat.mod_one], Sat.nil _ _, by rw [← h.1]; rfl⟩
  | i + 1, hi, a', q', h, hs => by
    obtain ⟨a1, e1, q1, h1⟩ : ∃ a1 e1 q1, flS b mk (k : Int) e q i = (a1, e1, q1) := ⟨_, _, _, rfl⟩
    have hsh := flS_shape b mk (k : Int) e q i
    rw [h1] at hsh
    dsimp only at hsh
    have hx1 : q1[i]? = some (q[i]'(by omega)) := by rw [hsh.2 i (Nat.le_refl _)]; exact List.getElem?_eq_getElem _
    have hxq : q[i]? = some (q[i]'(by omega)) := List.getElem?_eq_getElem _
    have hxs : small (q[i]'(by omega)) := hq _ (List.getElem_mem _)
    by_cases hbit : mk / 2 ^ i % 2 = 1
    · obtain ⟨a2, e2, v, hm⟩ : ∃ a2 e2 v, morR b a1 e1 = (a2, e2, v) := ⟨_, _, _, rfl⟩
      rw [flS_on h1 hbit hm hx1] at h
      simp only [Prod.mk.injEq] at h
      obtain ⟨rfl, rfl, rfl⟩ := h
      have he1 : e1 = 0 := by
        by_cases he : e1 = 0
        · exact he
        · rw [morR_bad he] at hm; simp only [Prod.mk.injEq] at hm; exact absurd hm.2.1 he
      subst he1
      have hq1 : ∀ x ∈ q1, small x := by
        intro x hx
        obtain ⟨j, hj, rfl⟩ := List.getElem_of_mem hx
        by_cases hji : j = i
        · subst hji
          have : q1[j] = q[j]'(by omega) := by have := List.getElem?_eq_getElem hj; rw [hx1] at this; exact (Option.some.inj this).symm
          rw [this]; exact hxs
        · refine hs _ ?_
          rw [← List.getElem_set_ne (fun h => hji h.symm) (by simpa using hj)]
          exact List.getElem_mem _
      obtain ⟨he, o, hn, ho, ha⟩ := flS_bwd hb hq hk i (by omega) a1 q1 h1 hq1
      subst ha
      obtain ⟨_, u, hu0, hu1, hv, hsu, ha2⟩ := morR_bwd hb (ho.len hk) hm
      have hyy : small (IntKind.i64.wrap ((q[i]'(by omega)) + v)) := hs _ (List.mem_iff_getElem?.2 ⟨i, by rw [List.getElem?_set_self (by omega)]⟩)
      have hsub := wrap_sub hxs hyy (hv ▸ zag_in hu1) rfl
      refine ⟨he, o ++ vb u, ?_, ho.app hsu, by rw [ha2, List.length_append]; omega⟩
      have hc := numS_congr (q := q) (a := q1.set i (IntKind.i64.wrap ((q[i]'(by omega)) + v))) (b := q1) i (fun j hj => List.getElem?_set_ne (by omega))
      rw [hn] at hc
      have hne : (q[i]'(by omega)) ≠ IntKind.i64.wrap ((q[i]'(by omega)) + v) := by
        intro heq
        rw [← heq] at hsub
        have : zag u = 0 := by rw [← hv]; omega
        rw [zag_zero] at this; omega
      rw [numS_step hc (List.getElem?_set_self (by omega)) hxq hne, hsub, hv, zig_zag, pow_bit, hbit, Nat.one_mul]
    · rw [flS_off h1 hbit] at h
      simp only [Prod.mk.injEq] at h
      obtain ⟨rfl, rfl, rfl⟩ := h
      obtain ⟨he, o, hn, ho, ha⟩ := flS_bwd hb hq hk i (by omega) a1 q1 h1 hs
      refine ⟨he, o, ?_, ho, ha⟩
      rw [numS_same hn (by rw [hx1, hxq]), pow_bit, show mk / 2 ^ i % 2 = 0 by omega]; simp
theorem numS_bit (a b : List Int) : ∀ i j, j < i → ((numS a b i).2 / 2 ^ j % 2 = 1 ↔ a[j]? ≠ b[j]?)
  | 0, j, h => absurd h (Nat.not_lt_zero j)
  | i + 1, j, h => by
    have hlt := numS_lt a b i
    by_cases hji : j = i
    · subst hji
      rw [numS]; split
      · rename_i he; rw [Nat.div_eq_of_lt hlt]; simp [he]
      · rename_i he
        dsimp only
        rw [Nat.add_div_right _ (Nat.two_pow_pos _), Nat.div_eq_of_lt hlt]; simp [he]
    · have ih := numS_bit a b i j (by omega)
      rw [numS]; split
      · exact ih
      · dsimp only
        have : (2 : Nat) ^ i = 2 ^ j * (2 * 2 ^ (i - j - 1)) := by rw [← Nat.pow_succ', ← Nat.pow_add]; congr 1; omega
        rw [this, Nat.add_mul_div_left _ _ (Nat.two_pow_pos _), Nat.add_mul_mod_self_left]; exact ih
theorem numS_mono (a b : List Int) : ∀ i d, ∃ r, (numS a b (i + d)).1 = (numS a b i).1 ++ r
  | i, 0 => ⟨[], by simp⟩
  | i, d + 1 => by
    obtain ⟨r, hr⟩ := numS_mono a b i d
    rw [← Nat.add_assoc, numS]; split
    · exact ⟨r, hr⟩
    · dsimp only; exact ⟨r ++ _, by rw [hr, List.append_assoc]⟩
theorem flS_fwd {b : List Nat} {mk k N : Nat} {q q' : List Int} (hk : k ≤ b.length) (hq : ∀ x ∈ q, small x) (hq' : ∀ x ∈ q', small x) (hl : q.length = q'.length) (hN : N ≤ q.length) (hbit : ∀ j, j < N → (mk / 2 ^ j % 2 = 1 ↔ q[j]? ≠ q'[j]?)) (ho : Sat b k (numS q q' N).1) :
    ∀ i, i ≤ N → flS b mk (k : Int) 0 q i = (((k + (numS q q' i).1.length : Nat) : Int), 0, q'.take i ++ q.drop i)
  | 0, _ => by simp [flS, numS]
  | i + 1, hi => by
    have ih := flS_fwd hk hq hq' hl hN hbit ho i (by omega)
    obtain ⟨r, hr⟩ := numS_mono q q' i (N - i)
    rw [show i + (N - i) = N by omega] at hr
    have hoi : Sat b k (numS q q' i).1 := by rw [hr] at ho; exact ho.left
    have hxq : q[i]? = some (q[i]'(by omega)) := List.getElem?_eq_getElem _
    have hxq' : q'[i]? = some (q'[i]'(by omega)) := List.getElem?_eq_getElem _
    have hxl : (q'.take i ++ q.drop i)[i]? = some (q[i]'(by omega)) := by
      rw [List.getElem?_append_right (by simp; omega), List.length_take, List.getElem?_drop, show i + (i - min i q'.length) = i by omega]; exact hxq
    by_cases hb1 : mk / 2 ^ i % 2 = 1
    · have hne := (hbit i (by omega)).1 hb1
      rw [hxq, hxq'] at hne
      have hne' : (q[i]'(by omega)) ≠ (q'[i]'(by omega)) := fun h => hne (congrArg some h)
      obtain ⟨o, m, hom⟩ : ∃ o m, numS q q' i = (o, m) := ⟨_, _, rfl⟩
      have hst := numS_step hom hxq' hxq hne'
      obtain ⟨r', hr'⟩ := numS_mono q q' (i + 1) (N - (i + 1))
      rw [show i + 1 + (N - (i + 1)) = N by omega, hst] at hr'
      rw [hom] at ih hoi
      dsimp only at ih hoi hr'
      have hsu : Sat b (k + o.length) (vb (zig ((q'[i]'(by omega)) - (q[i]'(by omega))))) := by
        rw [hr', List.append_assoc] at ho; exact ho.right.left
      have hz := zig_small (hq' _ (List.getElem_mem (by omega : i < q'.length))) (hq _ (List.getElem_mem (by omega : i < q.length)))
      have hm := morR_fwd (hoi.len hk) hsu (zig_pos' (by omega)) (zig_le hz.1 hz.2)
      rw [flS_on ih hb1 hm hxl, hst, zag_zig, wrap_add (hq' _ (List.getElem_mem _))]
      simp only [Prod.mk.injEq, true_and]
      refine ⟨by simp [Nat.add_assoc], ?_⟩
      apply List.ext_getElem?
      intro j
      rw [List.getElem?_set]
      by_cases hji : i = j
      · subst hji
        rw [if_pos rfl, if_pos (by simp; omega), List.getElem?_append_left (by simp; omega), List.getElem?_take, if_pos (by omega)]
        exact hxq'.symm
      · rw [if_neg hji]
        simp only [List.getElem?_append, List.length_take, List.getElem?_take, List.getElem?_drop]
        by_cases h1 : j < i
        · rw [if_pos (by omega), if_pos h1, if_pos (by omega), if_pos (by omega)]
        · rw [if_neg (by omega), if_neg (by omega)]; congr 1; omega
    · have he : q[i]? = q'[i]? := by
        by_cases h : q[i]? = q'[i]?
        · exact h
        · exact absurd ((hbit i (by omega)).2 h) hb1
      rw [flS_off ih hb1, numS, if_pos he]
      simp only [Prod.mk.injEq, true_and]
      apply List.ext_getElem?
      intro j
      simp only [List.getElem?_append, List.length_take, List.getElem?_take, List.getElem?_drop]
      by_cases h1 : j < i
      · rw [if_pos (by omega), if_pos h1, if_pos (by omega), if_pos (by omega)]
      · by_cases h2 : j = i
        · subst h2
          rw [if_neg (by omega), if_pos (by omega), if_pos (by omega), ← he]; congr 1; omega
        · rw [if_neg (by omega), if_neg (by omega)]; congr 1; omega
end Go.Proofs.Ytlcglefbhlhcpaa.K
