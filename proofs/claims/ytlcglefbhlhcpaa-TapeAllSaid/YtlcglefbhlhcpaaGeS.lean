/- A state is read: plain. -/
import Derived.Test.YtlcglefbhlhcpaaGeC
namespace Go.Proofs.Ytlcglefbhlhcpaa.K
open Go.RowKit
set_option linter.unusedVariables false
section
variable {P : Program} {ops : Array Oper} {Q : Exit → Act → World → Prop} {dfs : List Deferred} {N : Nat} {env : List (Nat × Value)} {a : Act} {w : World} {i d : Nat} {k : Kind} {r : List (Nat × Kind)}
variable {ty : TypeId} {pos : String} {af : Array Edge} {g : Option (Nat × Bool)} {v : Value}
/-- An element of an array that is a value. -/
theorem Run.indexA {x y : Operand} {t e n : Nat} {cs : Array Value} {kd : IntKind} {m : Int} (hi : ops[i]? = some ⟨some d, .index t x y, ty, pos, af, g⟩) (E : EnvD dfs N env a) (hw : wnt ops env g = true) (hN : Nat.blt d N = true) (hx : ev env x = some (.agg cs)) (hy : ev env y = some (.int kd m)) (he : P.underlying t = some (.array n e)) (hz : (P.info? e).map (·.size) = some 1) (h1 : oneCell P e = true) (hm : 0 ≤ m ∧ m < (n : Int)) (hv : cs[m.toNat]? = some v)
    (K : ∀ a', EnvD dfs N ((d, v) :: env) a' → Run P ops Q r a' w) : Run P ops Q ((i, k) :: r) a w :=
  Run.val hi E hw hN (fun w => by
    obtain ⟨inf, hinf, hs⟩ := Option.map_eq_some_iff.1 hz
    have hp : (part e cs m.toNat).run P w = .ok v w := by simp [part, run_isAgg_one h1, hv]
    simp [execOp, E.eval hx, E.eval hy, Instr.index, asIntOf, run_underlying he, hm, sizeOf, typeInfo, hinf, hs, hp]) K
end
theorem i64_and_mask (k j : Nat) (hk : k < 9223372036854775808) (hj : j ≤ 63) : bits .and .i64 (k : Int) ((2 ^ j - 1 : Nat) : Int) = ((k % 2 ^ j : Nat) : Int) := by
  have h1 : (BitVec.ofInt 64 (k : Int)).toNat = k := by simp; omega
  have hp : 2 ^ j ≤ 2 ^ 63 := Nat.pow_le_pow_right (by decide) hj
  have h2 : (BitVec.ofInt 64 ((2 ^ j - 1 : Nat) : Int)).toNat = 2 ^ j - 1 := by
    rw [BitVec.toNat_ofInt]
    have : 0 < 2 ^ j := Nat.two_pow_pos j
    omega
  show IntKind.i64.wrap (BitVec.ofInt 64 _ &&& BitVec.ofInt 64 _).toNat = _
  rw [BitVec.toNat_and, h1, h2, Nat.and_two_pow_sub_one_eq_mod]
  have : k % 2 ^ j ≤ k := Nat.mod_le _ _
  exact i64_ok (by omega)
theorem i64_and_64 : ∀ k : Nat, k < 128 → bits .and .i64 (k : Int) 64 = (((if k < 64 then 0 else 64 : Nat)) : Int) := by decide +kernel
theorem Rd.lt {w : World} {A : Option Addr} {n sz : Nat} {xs : List Value} (h : Rd w A n sz xs) (hn : 0 < n) (hs : 0 < sz) {b o : Nat} (e : A = some ⟨b, o, none⟩) : b < w.heap.size := by
  obtain ⟨b', o', e', hc⟩ := h.2 hn
  rw [e] at e'; cases e'
  have hl : 0 < xs.length := by rw [h.1]; exact Nat.mul_pos hn hs
  exact World.block_lt_of_cell? w (⟨b, o + 0, none⟩ : Addr) (hc 0 _ (List.getElem?_eq_getElem hl))
/-- The numbers are read, of the first i. -/
def flS (b : List Nat) (mk : Nat) (a : Int) (e : Nat) (q : List Int) : Nat → Int × Nat × List Int
  | 0 => (a, e, q)
  | i + 1 =>
    if mk / 2 ^ i % 2 = 1 then ((morR b (flS b mk a e q i).1 (flS b mk a e q i).2.1).1, (morR b (flS b mk a e q i).1 (flS b mk a e q i).2.1).2.1, (flS b mk a e q i).2.2.set i (IntKind.i64.wrap (((flS b mk a e q i).2.2[i]?).getD 0 + (morR b (flS b mk a e q i).1 (flS b mk a e q i).2.1).2.2)))
    else flS b mk a e q i
theorem flS_on {b : List Nat} {mk : Nat} {a : Int} {e : Nat} {q : List Int} {i : Nat} {a1 : Int} {e1 : Nat} {q1 : List Int} {a2 : Int} {e2 : Nat} {v x : Int} (h : flS b mk a e q i = (a1, e1, q1)) (hb : mk / 2 ^ i % 2 = 1) (hm : morR b a1 e1 = (a2, e2, v)) (hx : q1[i]? = some x) : flS b mk a e q (i + 1) = (a2, e2, q1.set i (IntKind.i64.wrap (x + v))) := by
  rw [flS, if_pos hb, h, hm, hx]; rfl
theorem flS_off {b : List Nat} {mk : Nat} {a : Int} {e : Nat} {q : List Int} {i : Nat} {a1 : Int} {e1 : Nat} {q1 : List Int} (h : flS b mk a e q i = (a1, e1, q1)) (hb : ¬ mk / 2 ^ i % 2 = 1) : flS b mk a e q (i + 1) = (a1, e1, q1) := by
  rw [flS, if_neg hb]; exact h
/-- What is read: the place behind it, an error, a state. -/
def rdF (s : Sta) (b : List Nat) (at_ : Int) : Int × Nat × Sta :=
  let k := numR b at_ 0 14
  let m := numR b k.1 k.2.1 127
  let f := flS b m.2.2.toNat m.1 m.2.1 s.nums.tail 6
  let p := if m.2.2 < 64 then (f.1, f.2.1, s.caps) else plR b f.1 f.2.1 s.caps
  (p.1, p.2.1, ⟨k.2.2, f.2.2.getD 0 0, f.2.2.getD 1 0, f.2.2.getD 2 0, f.2.2.getD 3 0, f.2.2.getD 4 0, f.2.2.getD 5 0, p.2.2⟩)
theorem rdF_of {s : Sta} {b : List Nat} {at_ : Int} {a1 a2 a3 a4 : Int} {e1 e2 e3 e4 : Nat} {kd : Int} {mk : Nat} {x0 x1 x2 x3 x4 x5 : Int} {cs : List Int} (h1 : numR b at_ 0 14 = (a1, e1, kd)) (h2 : numR b a1 e1 127 = (a2, e2, (mk : Int))) (h3 : flS b mk a2 e2 s.nums.tail 6 = (a3, e3, [x0, x1, x2, x3, x4, x5]))
    (h4 : (if mk < 64 then (a3, e3, s.caps) else plR b a3 e3 s.caps) = (a4, e4, cs)) : rdF s b at_ = (a4, e4, ⟨kd, x0, x1, x2, x3, x4, x5, cs⟩) := by
  unfold rdF
  simp only [h1, h2, Int.toNat_natCast, h3]
  have h5 : (if (mk : Int) < 64 then (a3, e3, s.caps) else plR b a3 e3 s.caps) = (a4, e4, cs) := by
    by_cases hm : mk < 64
    · rw [if_pos (by omega)]; rw [if_pos hm] at h4; exact h4
    · rw [if_neg (by omega)]; rw [if_neg hm] at h4; exact h4
  rw [h5]; rfl
end Go.Proofs.Ytlcglefbhlhcpaa.K
