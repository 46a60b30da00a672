/- Bits, shifts, copy. -/
import Derived.Test.YtlcglefbhlhcpaaKj
namespace Go.Proofs.Ytlcglefbhlhcpaa.K
open Go.RowKit
set_option linter.unusedVariables false
section
variable {P : Program} {ops : Array Oper} {Q : Exit → Act → World → Prop} {dfs : List Deferred} {N : Nat} {env : List (Nat × Value)} {a : Act} {w : World} {i d : Nat} {k : Kind} {r : List (Nat × Kind)}
variable {ty : TypeId} {pos : String} {af : Array Edge} {g : Option (Nat × Bool)} {v u : Value}
variable {F : List Nat} {w0 : World} {hp : List Ck}
/-- Bits of whole numbers, as the machine has them. -/
def bits (op : BinOp) (kd : IntKind) (m n : Int) : Int := match op with
  | .and => kd.wrap (BitVec.ofInt kd.bits m &&& BitVec.ofInt kd.bits n).toNat
  | .or => kd.wrap (BitVec.ofInt kd.bits m ||| BitVec.ofInt kd.bits n).toNat
  | .xor => kd.wrap (BitVec.ofInt kd.bits m ^^^ BitVec.ofInt kd.bits n).toNat
  | _ => 0
theorem Run.and {x y : Operand} {xt yt : TypeId} {kd : IntKind} {m n q : Int} (hi : ops[i]? = some ⟨some d, .binOp .and xt x y yt, ty, pos, af, g⟩) (E : EnvD dfs N env a) (hw : wnt ops env g = true) (hN : Nat.blt d N = true) (hx : ev env x = some (.int kd m)) (hy : ev env y = some (.int kd n)) (hb : bits .and kd m n = q)
    (K : ∀ a', EnvD dfs N ((d, .int kd q) :: env) a' → Run P ops Q r a' w) : Run P ops Q ((i, k) :: r) a w :=
  Run.val hi E hw hN (fun w => by subst hb; simp [execOp, E.eval hx, E.eval hy, binOp, Op.intBits, eqGuard, bits]) K
theorem Run.or {x y : Operand} {xt yt : TypeId} {kd : IntKind} {m n q : Int} (hi : ops[i]? = some ⟨some d, .binOp .or xt x y yt, ty, pos, af, g⟩) (E : EnvD dfs N env a) (hw : wnt ops env g = true) (hN : Nat.blt d N = true) (hx : ev env x = some (.int kd m)) (hy : ev env y = some (.int kd n)) (hb : bits .or kd m n = q)
    (K : ∀ a', EnvD dfs N ((d, .int kd q) :: env) a' → Run P ops Q r a' w) : Run P ops Q ((i, k) :: r) a w :=
  Run.val hi E hw hN (fun w => by subst hb; simp [execOp, E.eval hx, E.eval hy, binOp, Op.intBits, eqGuard, bits]) K
theorem Run.xor {x y : Operand} {xt yt : TypeId} {kd : IntKind} {m n q : Int} (hi : ops[i]? = some ⟨some d, .binOp .xor xt x y yt, ty, pos, af, g⟩) (E : EnvD dfs N env a) (hw : wnt ops env g = true) (hN : Nat.blt d N = true) (hx : ev env x = some (.int kd m)) (hy : ev env y = some (.int kd n)) (hb : bits .xor kd m n = q)
    (K : ∀ a', EnvD dfs N ((d, .int kd q) :: env) a' → Run P ops Q r a' w) : Run P ops Q ((i, k) :: r) a w :=
  Run.val hi E hw hN (fun w => by subst hb; simp [execOp, E.eval hx, E.eval hy, binOp, Op.intBits, eqGuard, bits]) K
theorem Run.shr {x y : Operand} {xt yt : TypeId} {kd ky : IntKind} {m q : Int} {n : Nat} (hi : ops[i]? = some ⟨some d, .binOp .shr xt x y yt, ty, pos, af, g⟩) (E : EnvD dfs N env a) (hw : wnt ops env g = true) (hN : Nat.blt d N = true) (hx : ev env x = some (.int kd m)) (hy : ev env y = some (.int ky (n : Int))) (hb : Nat.ble n kd.bits = true) (hq : m.fdiv (2 ^ n) = q)
    (K : ∀ a', EnvD dfs N ((d, .int kd q) :: env) a' → Run P ops Q r a' w) : Run P ops Q ((i, k) :: r) a w :=
  Run.val hi E hw hN (fun w => by
    subst hq
    have h0 : ¬ ((n : Int) < 0) := by omega
    have h1 : Min.min n kd.bits = n := Nat.min_eq_left (Nat.le_of_ble_eq_true hb)
    simp [execOp, E.eval hx, E.eval hy, binOp, Op.shift, eqGuard, h0, h1]) K
theorem Run.shl {x y : Operand} {xt yt : TypeId} {kd ky : IntKind} {m q : Int} {n : Nat} (hi : ops[i]? = some ⟨some d, .binOp .shl xt x y yt, ty, pos, af, g⟩) (E : EnvD dfs N env a) (hw : wnt ops env g = true) (hN : Nat.blt d N = true) (hx : ev env x = some (.int kd m)) (hy : ev env y = some (.int ky (n : Int))) (hb : Nat.ble n kd.bits = true) (hq : kd.wrap (m * 2 ^ n) = q)
    (K : ∀ a', EnvD dfs N ((d, .int kd q) :: env) a' → Run P ops Q r a' w) : Run P ops Q ((i, k) :: r) a w :=
  Run.val hi E hw hN (fun w => by
    subst hq
    have h0 : ¬ ((n : Int) < 0) := by omega
    have h1 : Min.min n kd.bits = n := Nat.min_eq_left (Nat.le_of_ble_eq_true hb)
    simp [execOp, E.eval hx, E.eval hy, binOp, Op.shift, eqGuard, h0, h1]) K
theorem take_splice {α : Type} (L xs news : List α) (n o : Nat) (h : L.take n = xs) (hf : o + news.length ≤ n) (hL : n ≤ L.length) : (L.take o ++ news ++ L.drop (o + news.length)).take n = xs.take o ++ news ++ xs.drop (o + news.length) := by
  subst h
  apply List.ext_getElem?
  intro j
  simp only [List.getElem?_take, List.getElem?_append, List.getElem?_drop, List.length_append, List.length_take]
  have e1 : min o L.length = o := by omega
  have e2 : min o (min n L.length) = o := by omega
  rw [e1, e2]
  by_cases hj : j < n
  · simp only [hj, if_true]
    by_cases h1 : j < o + news.length
    · simp only [h1, if_true]
    · simp only [h1, if_false]
      have : o + news.length + (j - (o + news.length)) = j := by omega
      rw [this]; simp [hj]
  · simp only [hj, if_false]
    have h1 : ¬ j < o + news.length := by omega
    simp only [h1, if_false]
    have : o + news.length + (j - (o + news.length)) = j := by omega
    rw [this]; simp [hj]
/-- copy(dst, src): dst lies in a row of the call's own; the cells read are news. -/
theorem Run.copy {x y : Operand} {t t' e b o m cd kk ck n c : Nat} {ad : Addr} {xs news : List Value} (ci : Nat) (hi : ops[i]? = some ⟨some d, .call ⟨.builtin .copy, #[x, y], #[t, t']⟩, ty, pos, af, g⟩) (E : EnvD dfs N env a) (S : St F w0 w hp) (hw : wnt ops env g = true) (hN : Nat.blt d N = true)
    (hx : ev env x = some (.slice (some ⟨b, o, none⟩) m cd)) (hy : ev env y = some (.slice (some ad) kk ck)) (hci : hp[ci]? = some (.row (.slice (some ⟨b, 0, none⟩) n c) e 1 n xs)) (he : P.underlying t = some (.slice e)) (hz : (P.info? e).map (·.size) = some 1)
    (hn : news.length = Min.min kk m) (hfit : o + news.length ≤ n) (hsrc : ∀ j u, news[j]? = some u → w.cell? (ad.add j) = some u) (h1 : ∀ u ∈ news, u.oneCell' = true)
    (K : ∀ w' a', EnvD dfs N ((d, .int .i64 news.length) :: env) a' → St F w0 w' (hp.set ci (.row (.slice (some ⟨b, 0, none⟩) n c) e 1 n (xs.take o ++ news ++ xs.drop (o + news.length)))) → Run P ops Q r a' w') : Run P ops Q ((i, .l) :: r) a w := by
  have hrow := S.row ci hci
  have hlen := hrow.1
  rcases hrow.2 with ⟨hv, _⟩ | ⟨b', cap, cur, hv, _, hg, hnc, hcm, hcs, htake⟩
  · cases hv
  · cases hv
    have hcz : cur.size = c := by omega
    have hr := run_copy_row (P := P) w t t' ty e b o m cd ad kk ck cur e news he hz hg hn hsrc (by omega) h1
    refine Run.ef rfl hi E hw hN (v := .int .i64 news.length) (w1 := w.setRow b (cur.toList.take o ++ news ++ cur.toList.drop (o + news.length)).toArray) ?_ (fun h => by cases h) (fun a' E' => K _ a' E' ?_)
    · simp only [execOp, resolve, invoke, builtin, Sem.run_bind, Sem.run_pure, Result.andThen_ok, List.map_toArray, List.map_cons, List.map_nil, E.eval hx, E.eval hy, hr]
      rfl
    · refine S.turn ci hci ?_ ?_ (fun k hk => .inl hk) (by simp [Ck.fp, Value.ownBlock])
      · exact ⟨rfl, rfl, rfl, by simp [World.setRow], fun k _ hk => setRow_other w b k _ (by simpa [Ck.fp, Value.ownBlock] using hk)⟩
      · have hsp := take_splice cur.toList xs news n o (by simpa using htake) hfit (by simp; omega)
        refine ⟨?_, .inr ⟨b, c, _, rfl, Nat.zero_le _, setRow_heap w b cur _ e _ hg, hnc, hcm, ?_, by simpa using hsp⟩⟩
        · rw [← hsp]; simp; omega
        · simp; omega
/-- Owned memory that is read, at whatever place. -/
theorem St.rdSub (s : St F w0 w hp) (i : Nat) {b n c e : Nat} {xs : List Value} (hi : hp[i]? = some (.row (.slice (some ⟨b, 0, none⟩) n c) e 1 n xs)) (o m : Nat) (h : o + m ≤ n) : Rd w (some ⟨b, o, none⟩) m 1 ((xs.drop o).take m) := by
  have hl := (s.row i hi).1
  refine ⟨by simp; omega, fun _ => ⟨b, o, rfl, fun j v hj => ?_⟩⟩
  refine s.rowCell i hi ?_
  rw [List.getElem?_take] at hj
  split at hj
  · simpa using hj
  · cases hj
end
theorem u64_and_mask (k j : Nat) (hk : k < 18446744073709551616) (hj : j ≤ 64) : bits .and .u64 (k : Int) ((2 ^ j - 1 : Nat) : Int) = ((k % 2 ^ j : Nat) : Int) := by
  have h1 : (BitVec.ofInt 64 (k : Int)).toNat = k := by simp; omega
  have hp : 2 ^ j ≤ 2 ^ 64 := Nat.pow_le_pow_right (by decide) hj
  have h2 : (BitVec.ofInt 64 ((2 ^ j - 1 : Nat) : Int)).toNat = 2 ^ j - 1 := by
    rw [BitVec.toNat_ofInt]
    have : 0 < 2 ^ j := Nat.two_pow_pos j
    omega
  show IntKind.u64.wrap (BitVec.ofInt 64 _ &&& BitVec.ofInt 64 _).toNat = _
  rw [BitVec.toNat_and, h1, h2, Nat.and_two_pow_sub_one_eq_mod]
  have : k % 2 ^ j ≤ k := Nat.mod_le _ _
  exact u64_ok (by omega)
theorem fdiv_pow (k j : Nat) : ((k : Int)).fdiv (2 ^ j) = ((k / 2 ^ j : Nat) : Int) := by
  rw [Int.fdiv_eq_ediv_of_nonneg _ (by exact Int.pow_nonneg (by decide))]
  simp
end Go.Proofs.Ytlcglefbhlhcpaa.K
