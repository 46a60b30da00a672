/- Bytes as a string; the document's examples. -/
import Derived.Test.YtlcglefbhlhcpaaDeC
import Derived.Laws.BytesArg
namespace Go.Proofs.Ytlcglefbhlhcpaa.K
open Go.RowKit
set_option linter.unusedVariables false
def strB (l : List Nat) : ByteArray := ⟨(l.map UInt8.ofNat).toArray⟩
section
variable {P : Program} {ops : Array Oper} {Q : Exit → Act → World → Prop} {dfs : List Deferred} {N : Nat} {env : List (Nat × Value)} {a : Act} {w : World} {i d : Nat} {k : Kind} {r : List (Nat × Kind)}
variable {ty : TypeId} {pos : String} {af : Array Edge} {g : Option (Nat × Bool)}
theorem run_toStr {t e dst n c : Nat} {A : Option Addr} {l : List Nat} (hR : Rd w A n 1 (u8s l)) (hn : l.length = n) (hs : P.underlying t = some (.slice e)) (he : P.underlying e = some (.int .u8)) (hd : P.underlying dst = some .string) : (convert t dst (.slice A n c)).run P w = .ok (.string (strB l)) w := by
  have hstr : ∀ l : List Nat, (⟨ByteArray.empty.data ++ ((l.map (fun x : Nat => (x : Int))).map fun n => UInt8.ofNat n.toNat).toArray⟩ : ByteArray) = strB l := by
    intro l
    unfold strB
    congr 1
    simp only [ByteArray.empty, ByteArray.emptyWithCapacity]
    show ([] : List UInt8).toArray ++ _ = _
    simp only [List.map_map, List.append_toArray, List.nil_append]
    congr 1
  have key : ∀ ad, A = some ad → (loadCells ad n).run P w = .ok ((l.map (fun x : Nat => (x : Int))).map (Value.int .u8)).toArray w → (convert t dst (.slice A n c)).run P w = .ok (.string (strB l)) w := by
    intro ad hA hl
    subst hA
    rw [run_convert_bytes_string w t dst e _ n c hs he hd, run_bytesToString w _ n c _ hl, foldl_push_bytes, hstr]
  by_cases h0 : 0 < n
  · obtain ⟨b, o, rfl, hc⟩ := hR.place h0
    refine key _ rfl ?_
    have := run_loadCells_list (P := P) w ⟨b, o, none⟩ (u8s l) (fun j v hj => by rw [add_at]; exact hc j v hj)
    rw [u8s_len, hn] at this
    rw [this]
    simp [u8s]
  · obtain rfl : n = 0 := by omega
    obtain rfl : l = [] := List.eq_nil_of_length_eq_zero hn
    cases A with
    | none =>
      rw [run_convert_bytes_nil w t e hs he 0 c dst hd]
      rfl
    | some ad => exact key _ rfl (by simp [loadCells, run_from_zero])
/-- string(b). -/
theorem Run.toStr {t e dst n c : Nat} {x : Operand} {A : Option Addr} {l : List Nat} (hk : nop k = true) (hi : ops[i]? = some ⟨some d, .convert t dst x, ty, pos, af, g⟩) (E : EnvD dfs N env a) (hw : wnt ops env g = true) (hN : Nat.blt d N = true) (hx : ev env x = some (.slice A n c))
    (hR : Rd w A n 1 (u8s l)) (hn : l.length = n) (hs : P.underlying t = some (.slice e)) (he : P.underlying e = some (.int .u8)) (hd : P.underlying dst = some .string) (K : ∀ a', EnvD dfs N ((d, .string (strB l)) :: env) a' → Run P ops Q r a' w) : Run P ops Q ((i, k) :: r) a w :=
  Run.rd hk hi E hw hN (fun w' hB => by
    simp only [execOp, E.eval hx, Sem.run_bind, run_toStr (hR.bel hB) hn hs he hd, Result.andThen_ok]
    first | rfl | simp [run_toStr (hR.bel hB) hn hs he hd]) K
theorem Run.eqs {x y : Operand} {xt yt : TypeId} {p q : ByteArray} {b : Bool} (hi : ops[i]? = some ⟨some d, .binOp .eql xt x y yt, ty, pos, af, g⟩) (E : EnvD dfs N env a) (hw : wnt ops env g = true) (hN : Nat.blt d N = true) (hx : ev env x = some (.string p)) (hy : ev env y = some (.string q)) (hb : (p.toList == q.toList) = b)
    (K : ∀ a', EnvD dfs N ((d, .bool b) :: env) a' → Run P ops Q r a' w) : Run P ops Q ((i, k) :: r) a w :=
  Run.bin hi E hw hN hx hy (fun w => by subst hb; simp [eqGuard, binOp, Op.stringOp]) K
end
/-- The examples. -/
def stA : Sta := ⟨1, 0, 0, 0, 0, 0, -1, [-1, -1]⟩
def stB : Sta := ⟨2, 2, 0, 1, 0, 0, -1, [-1, -1]⟩
theorem base_blank2 : (Sta.blank 2).base := by decide
theorem right_stA : stA.Right (Sta.blank 2).groups := by decide
theorem base_stA : stA.base := by decide
theorem right_stB : stB.Right stA.groups := by decide
theorem rec_A : rec18 (Sta.blank 2) stA = [1, 0] := by
  have h1 : numS (Sta.blank 2).nums.tail stA.nums.tail 6 = ([], 0) := by decide
  have h2 : mvS (Sta.blank 2).caps stA.caps stA.caps.length = ([], 0, 0) := by decide
  unfold rec18 mvR
  rw [h1, h2]
  simp [stA, vb_low]
theorem rec_B : rec18 stA stB = [2, 5, 4, 2] := by
  have s0 : numS stA.nums.tail stB.nums.tail 0 = ([], 0) := rfl
  have s1 := numS_step (x := 2) (y := 0) s0 rfl rfl (by decide)
  have s2 := numS_same s1 rfl
  have s3 := numS_step (x := 1) (y := 0) s2 rfl rfl (by decide)
  have s4 := numS_same s3 rfl
  have s5 := numS_same s4 rfl
  have s6 := numS_same s5 rfl
  have h2 : mvS stA.caps stB.caps stB.caps.length = ([], 0, 0) := by decide
  unfold rec18 mvR
  rw [s6, h2]
  simp [stB, vb_low, zig]
end Go.Proofs.Ytlcglefbhlhcpaa.K
