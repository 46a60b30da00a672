/- The laws PileCuts, PileTakes, PilePlays, walked. -/
import Derived.Test.YtlcglefbhlhcpaaKg
import Derived.Test.YtlcglefbhlhcpaaPileC
namespace Go.Proofs.Ytlcglefbhlhcpaa.K
open Go.RowKit
set_option linter.unusedVariables false
set_option maxRecDepth 100000

section
variable {P : Program} {ops : Array Oper} {Q : Exit → Act → World → Prop} {N : Nat} {env : List (Nat × Value)} {a : Act} {w : World} {i d : Nat} {k : Kind} {r : List (Nat × Kind)} {ty : TypeId} {pos : String} {af : Array Edge} {g : Option (Nat × Bool)}
theorem Run.eqb {x y : Operand} {xt yt : TypeId} {p q c : Bool} (hi : ops[i]? = some ⟨some d, .binOp .eql xt x y yt, ty, pos, af, g⟩) (E : Env N env a) (hw : wnt ops env g = true) (hN : Nat.blt d N = true) (hx : ev env x = some (.bool p)) (hy : ev env y = some (.bool q)) (ht : P.underlying xt = some .bool) (hc : (p == q) = c)
    (K : ∀ a', Env N ((d, .bool c) :: env) a' → Run P ops Q r a' w) : Run P ops Q ((i, k) :: r) a w :=
  Run.bin hi E hw hN hx hy (fun w => by subst hc; simp [eqGuard, run_eql_bool w xt p q ht]) K
theorem Run.neb {x y : Operand} {xt yt : TypeId} {p q c : Bool} (hi : ops[i]? = some ⟨some d, .binOp .neq xt x y yt, ty, pos, af, g⟩) (E : Env N env a) (hw : wnt ops env g = true) (hN : Nat.blt d N = true) (hx : ev env x = some (.bool p)) (hy : ev env y = some (.bool q)) (ht : P.underlying xt = some .bool) (hc : (!(p == q)) = c)
    (K : ∀ a', Env N ((d, .bool c) :: env) a' → Run P ops Q r a' w) : Run P ops Q ((i, k) :: r) a w :=
  Run.bin hi E hw hN hx hy (fun w => by subst hc; simp [eqGuard, run_neq_bool w xt p q ht]) K
end

section
variable {w0 : World}

/-- An entry that is no barrier. -/
def unb (e : Ent) : Ent := { e with bar := false }
theorem cut_step {below above : List Ent} {b : Ent} {i : Nat} (h : i < above.length) : (below ++ [b] ++ (above.take i).map unb) ++ [unb above[i]] = below ++ [b] ++ (above.take (i + 1)).map unb := by
  rw [← take_snoc h, List.map_append, List.append_assoc]; rfl
theorem cuts_parts (below above : List Ent) (b : Ent) (hb : b.bar = true) : barIdx (below ++ [b] ++ above.map unb) = barIdx below ++ [(below.length : Int)] := by
  obtain ⟨r, rfl⟩ : ∃ r, above = r.reverse := ⟨above.reverse, by simp⟩
  induction r with
  | nil => simp [barIdx_snoc, hb]
  | cons e r ih =>
    rw [List.reverse_cons, List.map_append, ← List.append_assoc]
    show barIdx (_ ++ [unb e]) = _
    rw [barIdx_snoc, ih]
    simp [unb]

theorem barAt_lt (l : List Ent) (h : 0 ≤ barAt l) : barAt l < (l.length : Int) := by
  rcases bar_parts l with ⟨h1, _⟩ | ⟨l1, b, l2, h1, h2, h3, h4⟩
  · rw [barAt_none h1] at h; omega
  · rw [barAt_some h4, h1]; simp; omega
theorem barAt_neg {l : List Ent} (h : ¬ 0 ≤ barAt l) : barAt l = -1 := by
  rcases bar_parts l with ⟨h1, _⟩ | ⟨l1, b, l2, h1, h2, h3, h4⟩
  · exact barAt_none h1
  · rw [barAt_some h4] at h; omega
theorem barE_at {l : List Ent} (h : 0 ≤ barAt l) : l[(barAt l).toNat]? = some (barE l) := by
  have hlt := barAt_lt l h
  unfold barE
  rw [if_pos h, List.getElem?_eq_getElem (by omega)]
  rfl
theorem pileCuts_walk {A A2 : Option Addr} {c c2 : Nat} {below above : List Ent} (H1 : Rd w0 A below.length 6 (ents below)) (H2 : Rd w0 A2 above.length 6 (ents above)) (hm1 : below.length ≤ 140737488355328) (hm2 : above.length ≤ 140737488355328) :
    Calls Try.prog 4 [.slice A below.length c, .slice A2 above.length c2].toArray w0 (fun r w' => r = .returned (.bool true) ∧ Bel w0 w') := by
  have S := St.nil [] w0
  have hcb := cuts_parts below above (Ent.mk true 0 0 0 0 77) rfl
  have hcs : (below ++ [(Ent.mk true 0 0 0 0 77)] ++ above.map unb) = below ++ (Ent.mk true 0 0 0 0 77) :: above.map unb := by simp
  have hcl : cutL (below ++ [(Ent.mk true 0 0 0 0 77)] ++ above.map unb) = below := cutL_some hcs hcb
  have hbe : barE (below ++ [(Ent.mk true 0 0 0 0 77)] ++ above.map unb) = (Ent.mk true 0 0 0 0 77) := barE_some hcs hcb
  have hat : decide (0 ≤ barAt (below ++ [(Ent.mk true 0 0 0 0 77)] ++ above.map unb)) = true := by rw [barAt_some hcb]; exact decide_eq_true (by omega)
  refine fn_start Try.func4 rfl 131 rfl rfl [(0, _), (1, _)] ⟨rfl, rfl, trivial⟩ ?_; intro a E
  refine wp_seq ?_
  refine region_plain (n := 1) [(0, .p)] rfl rfl ?_
  refine Run.assign rfl E rfl rfl rfl ?_; clear E a; intro a E
  refine Run.nil ?_
  refine then_n ?_
  refine wp_seq ?_
  refine wp_seq ?_
  refine region_plain (n := 2) [(0, .e), (1, .p)] rfl rfl ?_
  refine Run.call (args := []) rfl rfl E rfl rfl Try.func28 nm28 rfl rfl (anchor16) ?_; rintro e_ w ⟨rfl, B_⟩; refine ⟨_, rfl, fun _ => B_, ?_⟩; clear E a; replace S := S.bel B_; intro a E
  clear B_
  refine Run.not rfl E rfl rfl rfl rfl ?_; clear E a; intro a E
  refine Run.nil ?_
  refine then_n ?_
  refine cond_F E rfl ?_
  refine wp_skip ?_
  refine then_n ?_
  refine wp_seq ?_
  refine region_plain (n := 6) [(0, .e), (1, .p), (2, .p), (3, .p), (4, .p), (5, .p)] rfl rfl ?_
  refine Run.call (args := [.int .i64 5000]) rfl rfl E rfl rfl Try.func29 nm29 rfl rfl (pile_new (by decide) (by decide)) ?_; rintro e_ w ⟨g1, rfl, S_⟩; refine ⟨_, rfl, (fun _ => S_.belT), ?_⟩; clear E a; intro a E
  replace S : St _ _ _ [.obj _ _ [_, _, _, _], _, _] := St.call (A := []) (R := []) S S_; clear S_
  refine Run.move rfl E rfl rfl rfl ?_; clear E a; intro a E
  refine Run.extract rfl E rfl rfl rfl rfl ?_; clear E a; intro a E
  refine Run.extract rfl E rfl rfl rfl rfl ?_; clear E a; intro a E
  refine Run.assign rfl E rfl rfl rfl ?_; clear E a; intro a E
  refine Run.assign rfl E rfl rfl rfl ?_; clear E a; intro a E
  refine Run.nil ?_
  refine then_n ?_
  refine wp_seq ?_
  refine wp_seq ?_
  refine region_plain (n := 16) [(0, .p), (1, .p), (2, .p), (3, .p), (4, .p), (5, .p), (6, .p), (7, .p), (8, .p), (9, .p), (10, .p), (11, .p), (12, .p), (13, .p), (14, .p), (15, .p)] rfl rfl ?_
  refine Run.move rfl E rfl rfl rfl ?_; clear E a; intro a E
  refine Run.nei rfl E rfl rfl rfl rfl (b := false) (by decide) ?_; clear E a; intro a E
  refine Run.move rfl E rfl rfl rfl ?_; clear E a; intro a E
  refine Run.move rfl E rfl rfl rfl ?_; clear E a; intro a E
  refine Run.bin (v := .bool false) rfl E rfl rfl rfl rfl (fun _ => by kernel_rfl) ?_; clear E a; intro a E
  refine Run.pickF rfl E rfl rfl rfl rfl ?_; clear E a; intro a E
  refine Run.move rfl E rfl rfl rfl ?_; clear E a; intro a E
  refine Run.move rfl E rfl rfl rfl ?_; clear E a; intro a E
  refine Run.len rfl E rfl rfl rfl Try.underlying38 ?_; clear E a; intro a E
  by_cases h1 : 1000 < (below.length : Int)
  · skip
    refine Run.gtr rfl E rfl rfl rfl rfl (decide_eq_true (by omega)) ?_; clear E a; intro a E
    refine Run.pickF rfl E rfl rfl rfl rfl ?_; clear E a; intro a E
    refine Run.move rfl E rfl rfl rfl ?_; clear E a; intro a E
    refine Run.off rfl E rfl rfl ?_; clear E a; intro a E
    refine Run.off rfl E rfl rfl ?_; clear E a; intro a E
    refine Run.off rfl E rfl rfl ?_; clear E a; intro a E
    refine Run.pickT rfl E rfl rfl rfl rfl ?_; clear E a; intro a E
    refine Run.nil ?_
    refine then_n ?_
    refine cond_T E rfl ?_
    refine wp_seq ?_
    refine region_plain (n := 7) [(0, .p), (1, .p), (2, .p), (3, .p), (4, .p), (5, .p), (6, .p)] rfl rfl ?_
    refine Run.move rfl E rfl rfl rfl ?_; clear E a; intro a E
    refine Run.eqi rfl E rfl rfl rfl rfl (b := true) (by decide) ?_; clear E a; intro a E
    refine Run.move rfl E rfl rfl rfl ?_; clear E a; intro a E
    refine Run.move rfl E rfl rfl rfl ?_; clear E a; intro a E
    refine Run.bin (v := .bool true) rfl E rfl rfl rfl rfl (fun _ => by kernel_rfl) ?_; clear E a; intro a E
    refine Run.pickT rfl E rfl rfl rfl rfl ?_; clear E a; intro a E
    refine Run.assign rfl E rfl rfl rfl ?_; clear E a; intro a E
    refine Run.nil ?_
    refine then_n ?_
    refine wp_ret ?_
    refine then_r ?_
    exact ret1 E Try.results4 rfl ⟨rfl, S.belT⟩
  · skip
    refine Run.gtr rfl E rfl rfl rfl rfl (decide_eq_false (by omega)) ?_; clear E a; intro a E
    refine Run.pickF rfl E rfl rfl rfl rfl ?_; clear E a; intro a E
    refine Run.move rfl E rfl rfl rfl ?_; clear E a; intro a E
    refine Run.move rfl E rfl rfl rfl ?_; clear E a; intro a E
    refine Run.len rfl E rfl rfl rfl Try.underlying38 ?_; clear E a; intro a E
    by_cases h2 : 1000 < (above.length : Int)
    · skip
      refine Run.gtr rfl E rfl rfl rfl rfl (decide_eq_true (by omega)) ?_; clear E a; intro a E
      refine Run.pickF rfl E rfl rfl rfl rfl ?_; clear E a; intro a E
      refine Run.nil ?_
      refine then_n ?_
      refine cond_T E rfl ?_
      refine wp_seq ?_
      refine region_plain (n := 7) [(0, .p), (1, .p), (2, .p), (3, .p), (4, .p), (5, .p), (6, .p)] rfl rfl ?_
      refine Run.move rfl E rfl rfl rfl ?_; clear E a; intro a E
      refine Run.eqi rfl E rfl rfl rfl rfl (b := true) (by decide) ?_; clear E a; intro a E
      refine Run.move rfl E rfl rfl rfl ?_; clear E a; intro a E
      refine Run.move rfl E rfl rfl rfl ?_; clear E a; intro a E
      refine Run.bin (v := .bool true) rfl E rfl rfl rfl rfl (fun _ => by kernel_rfl) ?_; clear E a; intro a E
      refine Run.pickT rfl E rfl rfl rfl rfl ?_; clear E a; intro a E
      refine Run.assign rfl E rfl rfl rfl ?_; clear E a; intro a E
      refine Run.nil ?_
      refine then_n ?_
      refine wp_ret ?_
      refine then_r ?_
      exact ret1 E Try.results4 rfl ⟨rfl, S.belT⟩
    · skip
      refine Run.gtr rfl E rfl rfl rfl rfl (decide_eq_false (by omega)) ?_; clear E a; intro a E
      refine Run.pickF rfl E rfl rfl rfl rfl ?_; clear E a; intro a E
      refine Run.nil ?_
      refine then_n ?_
      refine cond_F E rfl ?_
      refine wp_skip ?_
      refine then_n ?_
      refine wp_seq ?_
      refine wp_seq ?_
      refine region_plain (n := 3) [(0, .p), (1, .p), (2, .p)] rfl rfl ?_
      refine Run.move rfl E rfl rfl rfl ?_; clear E a; intro a E
      refine Run.len rfl E rfl rfl rfl Try.underlying38 ?_; clear E a; intro a E
      refine Run.move rfl E rfl rfl rfl ?_; clear E a; intro a E
      refine Run.nil ?_
      refine then_n ?_
      refine wp_block ?_
      skip
      refine wp_loop_ghost (fun n a w => ∃ i : Nat, ∃ pA : Option Addr, ∃ pc_ : Nat, ∃ pB : Option Addr, ∃ pd : Nat, below.length - i = n ∧ Env 131 [(0, .slice A below.length c), (1, .slice A2 above.length c2), (4, .bool false), (5, .pointer (some ⟨g1, 0, none⟩)), (46, .slice A below.length c), (47, .int .i64 (below.length : Int)), (48, .int .i64 (i : Int))] a ∧ St _ _ w [.obj g1 130 [.int .i64 5000, .int .i64 (i : Int), .slice pA ((below.take i).length) pc_, .slice pB ((barIdx (below.take i)).length) pd], .row (.slice pA ((below.take i).length) pc_) 43 6 ((below.take i).length) (ents (below.take i)), .row (.slice pB ((barIdx (below.take i)).length) pd) 3 1 ((barIdx (below.take i)).length) (ints (barIdx (below.take i)))] ∧ (i ≤ below.length)) _ ⟨0, none, 0, none, 0, rfl, E.keeps [(0, _), (1, _), (4, _), (5, _), (46, _), (47, _), (48, _)] ⟨rfl, rfl, rfl, rfl, rfl, rfl, rfl, trivial⟩, S, Nat.zero_le _⟩ ?_
      clear E a S
      rintro n_ a w ⟨i, pA, pc_, pB, pd, rfl, E, S, hi⟩
      refine wp_seq ?_
      refine region_plain (n := 1) [(0, .p)] rfl rfl ?_
      by_cases hlt : i < below.length
      · skip
        obtain ⟨bA, obA, rfl, hbA⟩ := H1.place (by omega)
        refine Run.lss rfl E rfl rfl rfl rfl (decide_eq_true (by omega)) ?_; clear E a; intro a E
        refine Run.nil ?_
        refine then_n ?_
        refine wp_seq ?_
        refine cond_T E rfl ?_
        refine wp_skip ?_
        refine then_n ?_
        refine wp_seq ?_
        refine wp_block ?_
        refine wp_seq ?_
        refine region_plain (n := 4) [(0, .p), (1, .l), (2, .e), (3, .l)] rfl rfl ?_
        refine Run.indexAddr rfl E rfl rfl rfl rfl Try.underlying38 sz43 (by omega) (ix_at' (m' := i) (by omega)) ?_; clear E a; intro a E
        refine Run.loadN (cs := [.bool ((below[i]).bar), .int .i64 ((below[i]).pc), .int .i64 ((below[i]).pos), .int .i64 ((below[i]).mark), .int .i64 ((below[i]).org), .int .i64 ((below[i]).val)]) rfl rfl E S rfl rfl rfl ag43 rfl (fun _ s => rdAtL hbA s _ _ (ents_get (List.getElem?_eq_getElem hlt))) ?_; clear E a; intro a E
        refine Run.alloc rfl rfl E S rfl rfl z43 rfl ?_; clear E a S; intro b2 w a E S B_; clear B_
        refine Run.store (news := [.bool ((below[i]).bar), .int .i64 ((below[i]).pc), .int .i64 ((below[i]).pos), .int .i64 ((below[i]).mark), .int .i64 ((below[i]).org), .int .i64 ((below[i]).val)]) (cs' := [_, _, _, _, _, _]) (hp' := [_, _, _, _]) 0 rfl E S rfl rfl rfl rfl rfl sz43 rfl rfl rfl rfl ?_; clear S; intro w S
        refine Run.nil ?_
        refine then_n ?_
        refine region_plain (n := 3) [(0, .p), (1, .l), (2, .l)] rfl rfl ?_
        refine Run.move rfl E rfl rfl rfl ?_; clear E a; intro a E
        refine Run.loadN (cs := [.bool ((below[i]).bar), .int .i64 ((below[i]).pc), .int .i64 ((below[i]).pos), .int .i64 ((below[i]).mark), .int .i64 ((below[i]).org), .int .i64 ((below[i]).val)]) rfl rfl E S rfl rfl rfl ag43 rfl (fun _ s => objAll s 0 rfl) ?_; clear E a; intro a E
        replace S : St _ _ _ [.obj _ _ [_, _, _, _], _, _, .obj _ _ [_, _, _, _, _, _]] := S.sel [1, 2, 3, 0] _ rfl rfl
        refine Run.call (args := [.pointer (some ⟨g1, 0, none⟩), .agg #[.bool ((below[i]).bar), .int .i64 ((below[i]).pc), .int .i64 ((below[i]).pos), .int .i64 ((below[i]).mark), .int .i64 ((below[i]).org), .int .i64 ((below[i]).val)]]) rfl rfl E rfl rfl Try.func30 nm30 rfl rfl (push_any (e := (below[i])) (mx := ((i + 1 : Nat) : Int)) (l' := below.take (i + 1)) (St.ownL (A := (Pile g1 pA pc_ pB pd 5000 (i : Int) (below.take i) (barIdx (below.take i)))) (R := [_]) S) (by simp; omega) (by decide) (mx_step (by simp; omega)) (take_snoc hlt)) ?_; rintro e_ w ⟨rfl, A3, c4, B5, d6, S_⟩; refine ⟨_, rfl, (fun h => by cases h), ?_⟩; clear E a; intro a E
        replace S : St _ _ _ [.obj _ _ [_, _, _, _], _, _, .obj _ _ [_, _, _, _, _, _]] := St.call (A := (Pile g1 pA pc_ pB pd 5000 (i : Int) (below.take i) (barIdx (below.take i)))) (R := [_]) S S_; clear S_
        refine Run.nil ?_
        refine blk_n ?_
        refine then_n ?_
        refine region_plain (n := 2) [(0, .p), (1, .p)] rfl rfl ?_
        refine Run.add rfl E rfl rfl rfl rfl (i64_ok (by omega)) ?_; clear E a; intro a E
        refine Run.move rfl E rfl rfl rfl ?_; clear E a; intro a E
        refine Run.nil ?_
        refine then_n ?_
        replace E := E.setv 48 rfl (show Value.int .i64 ((i : Int) + 1) = .int .i64 ((i + 1 : Nat) : Int) from rfl)
        have S : St _ _ _ [_, _, _, _] := S.sel [3, 0, 1, 2] _ rfl rfl
        have S := S.drop1
        exact ⟨_, (by omega), (i + 1), A3, c4, B5, d6, rfl, E.keeps [(0, _), (1, _), (4, _), (5, _), (46, _), (47, _), (48, _)] ⟨rfl, rfl, rfl, rfl, rfl, rfl, rfl, trivial⟩, S, hlt⟩
      · skip
        have e0 : below.take i = below := List.take_of_length_le (by omega)
        rw [e0] at S
        have ei : i = below.length := by omega
        subst ei
        refine Run.lss rfl E rfl rfl rfl rfl (decide_eq_false (by omega)) ?_; clear E a; intro a E
        refine Run.nil ?_
        refine then_n ?_
        refine wp_seq ?_
        refine cond_F E rfl ?_
        refine wp_exit ?_
        refine then_x ?_
        refine then_x ?_
        refine blk_x ?_
        refine then_n ?_
        refine wp_seq ?_
        refine region_plain (n := 3) [(0, .p), (1, .p), (2, .l)] rfl rfl ?_
        refine Run.move rfl E rfl rfl rfl ?_; clear E a; intro a E
        refine Run.build (cs := #[.bool true, .int .i64 0, .int .i64 0, .int .i64 0, .int .i64 0, .int .i64 77]) [(0, .bool true), (5, .int .i64 77)] rfl E rfl rfl rfl rfl ?_; clear E a; intro a E
        refine Run.call (args := [.pointer (some ⟨g1, 0, none⟩), .agg #[.bool true, .int .i64 0, .int .i64 0, .int .i64 0, .int .i64 0, .int .i64 77]]) rfl rfl E rfl rfl Try.func30 nm30 rfl rfl (push_any (e := (Ent.mk true 0 0 0 0 77)) (mx := ((below.length + 1 : Nat) : Int)) (l' := below ++ [(Ent.mk true 0 0 0 0 77)]) (St.ownL (A := (Pile g1 pA pc_ pB pd 5000 (below.length : Int) below (barIdx below))) (R := []) S) (by omega) (by decide) (mx_step rfl) (rfl)) ?_; rintro e_ w ⟨rfl, A7, c8, B9, d10, S_⟩; refine ⟨_, rfl, (fun h => by cases h), ?_⟩; clear E a; intro a E
        replace S : St _ _ _ [.obj _ _ [_, _, _, _], _, _] := St.call (A := (Pile g1 pA pc_ pB pd 5000 (below.length : Int) below (barIdx below))) (R := []) S S_; clear S_
        refine Run.nil ?_
        refine then_n ?_
        refine wp_seq ?_
        refine wp_seq ?_
        refine region_plain (n := 3) [(0, .p), (1, .p), (2, .p)] rfl rfl ?_
        refine Run.move rfl E rfl rfl rfl ?_; clear E a; intro a E
        refine Run.len rfl E rfl rfl rfl Try.underlying38 ?_; clear E a; intro a E
        refine Run.move rfl E rfl rfl rfl ?_; clear E a; intro a E
        refine Run.nil ?_
        refine then_n ?_
        refine wp_block ?_
        have e00 : below ++ [(Ent.mk true 0 0 0 0 77)] = below ++ [(Ent.mk true 0 0 0 0 77)] ++ (above.take 0).map unb := by simp
        rw [e00] at S
        refine wp_loop_ghost (fun n a w => ∃ i : Nat, ∃ pA : Option Addr, ∃ pc_ : Nat, ∃ pB : Option Addr, ∃ pd : Nat, above.length - i = n ∧ Env 131 [(0, .slice A below.length c), (4, .bool false), (5, .pointer (some ⟨g1, 0, none⟩)), (59, .slice A2 above.length c2), (60, .int .i64 (above.length : Int)), (61, .int .i64 (i : Int))] a ∧ St _ _ w [.obj g1 130 [.int .i64 5000, .int .i64 ((below.length + 1 + i : Nat) : Int), .slice pA ((below ++ [(Ent.mk true 0 0 0 0 77)] ++ (above.take i).map unb).length) pc_, .slice pB ((barIdx (below ++ [(Ent.mk true 0 0 0 0 77)] ++ (above.take i).map unb)).length) pd], .row (.slice pA ((below ++ [(Ent.mk true 0 0 0 0 77)] ++ (above.take i).map unb).length) pc_) 43 6 ((below ++ [(Ent.mk true 0 0 0 0 77)] ++ (above.take i).map unb).length) (ents (below ++ [(Ent.mk true 0 0 0 0 77)] ++ (above.take i).map unb)), .row (.slice pB ((barIdx (below ++ [(Ent.mk true 0 0 0 0 77)] ++ (above.take i).map unb)).length) pd) 3 1 ((barIdx (below ++ [(Ent.mk true 0 0 0 0 77)] ++ (above.take i).map unb)).length) (ints (barIdx (below ++ [(Ent.mk true 0 0 0 0 77)] ++ (above.take i).map unb)))] ∧ (i ≤ above.length)) _ ⟨0, A7, c8, B9, d10, rfl, E.keeps [(0, _), (4, _), (5, _), (59, _), (60, _), (61, _)] ⟨rfl, rfl, rfl, rfl, rfl, rfl, trivial⟩, S, Nat.zero_le _⟩ ?_
        clear E a S
        rintro n_ a w ⟨i, pA, pc_, pB, pd, rfl, E, S, hi⟩
        refine wp_seq ?_
        refine region_plain (n := 1) [(0, .p)] rfl rfl ?_
        by_cases hlt : i < above.length
        · skip
          obtain ⟨bX, obX, rfl, hbX⟩ := H2.place (by omega)
          refine Run.lss rfl E rfl rfl rfl rfl (decide_eq_true (by omega)) ?_; clear E a; intro a E
          refine Run.nil ?_
          refine then_n ?_
          refine wp_seq ?_
          refine cond_T E rfl ?_
          refine wp_skip ?_
          refine then_n ?_
          refine wp_seq ?_
          refine wp_block ?_
          refine wp_seq ?_
          refine region_plain (n := 4) [(0, .p), (1, .l), (2, .e), (3, .l)] rfl rfl ?_
          refine Run.indexAddr rfl E rfl rfl rfl rfl Try.underlying38 sz43 (by omega) (ix_at' (m' := i) (by omega)) ?_; clear E a; intro a E
          refine Run.loadN (cs := [.bool ((above[i]).bar), .int .i64 ((above[i]).pc), .int .i64 ((above[i]).pos), .int .i64 ((above[i]).mark), .int .i64 ((above[i]).org), .int .i64 ((above[i]).val)]) rfl rfl E S rfl rfl rfl ag43 rfl (fun _ s => rdAtL hbX s _ _ (ents_get (List.getElem?_eq_getElem hlt))) ?_; clear E a; intro a E
          refine Run.alloc rfl rfl E S rfl rfl z43 rfl ?_; clear E a S; intro b11 w a E S B_; clear B_
          refine Run.store (news := [.bool ((above[i]).bar), .int .i64 ((above[i]).pc), .int .i64 ((above[i]).pos), .int .i64 ((above[i]).mark), .int .i64 ((above[i]).org), .int .i64 ((above[i]).val)]) (cs' := [_, _, _, _, _, _]) (hp' := [_, _, _, _]) 0 rfl E S rfl rfl rfl rfl rfl sz43 rfl rfl rfl rfl ?_; clear S; intro w S
          refine Run.nil ?_
          refine then_n ?_
          refine wp_seq ?_
          refine region_plain (n := 2) [(0, .p), (1, .l)] rfl rfl ?_
          refine Run.fieldAddr rfl E rfl rfl rfl fo43_0 (rfl) ?_; clear E a; intro a E
          refine Run.store (news := [.bool false]) (cs' := [_, _, _, _, _, _]) (hp' := [_, _, _, _]) 0 rfl E S rfl rfl rfl rfl rfl sz4 rfl rfl rfl rfl ?_; clear S; intro w S
          refine Run.nil ?_
          refine then_n ?_
          refine region_plain (n := 3) [(0, .p), (1, .l), (2, .l)] rfl rfl ?_
          refine Run.move rfl E rfl rfl rfl ?_; clear E a; intro a E
          refine Run.loadN (cs := [.bool false, .int .i64 ((above[i]).pc), .int .i64 ((above[i]).pos), .int .i64 ((above[i]).mark), .int .i64 ((above[i]).org), .int .i64 ((above[i]).val)]) rfl rfl E S rfl rfl rfl ag43 rfl (fun _ s => objAll s 0 rfl) ?_; clear E a; intro a E
          replace S : St _ _ _ [.obj _ _ [_, _, _, _], _, _, .obj _ _ [_, _, _, _, _, _]] := S.sel [1, 2, 3, 0] _ rfl rfl
          refine Run.call (args := [.pointer (some ⟨g1, 0, none⟩), .agg #[.bool false, .int .i64 ((above[i]).pc), .int .i64 ((above[i]).pos), .int .i64 ((above[i]).mark), .int .i64 ((above[i]).org), .int .i64 ((above[i]).val)]]) rfl rfl E rfl rfl Try.func30 nm30 rfl rfl (push_any (e := unb (above[i])) (mx := ((below.length + 1 + (i + 1) : Nat) : Int)) (l' := below ++ [(Ent.mk true 0 0 0 0 77)] ++ (above.take (i + 1)).map unb) (St.ownL (A := (Pile g1 pA pc_ pB pd 5000 ((below.length + 1 + i : Nat) : Int) (below ++ [(Ent.mk true 0 0 0 0 77)] ++ (above.take i).map unb) (barIdx (below ++ [(Ent.mk true 0 0 0 0 77)] ++ (above.take i).map unb)))) (R := [_]) S) (by simp; omega) (by decide) (mx_step (n := below.length + 1 + i) (by simp; omega)) (cut_step hlt)) ?_; rintro e_ w ⟨rfl, A12, c13, B14, d15, S_⟩; refine ⟨_, rfl, (fun h => by cases h), ?_⟩; clear E a; intro a E
          replace S : St _ _ _ [.obj _ _ [_, _, _, _], _, _, .obj _ _ [_, _, _, _, _, _]] := St.call (A := (Pile g1 pA pc_ pB pd 5000 ((below.length + 1 + i : Nat) : Int) (below ++ [(Ent.mk true 0 0 0 0 77)] ++ (above.take i).map unb) (barIdx (below ++ [(Ent.mk true 0 0 0 0 77)] ++ (above.take i).map unb)))) (R := [_]) S S_; clear S_
          refine Run.nil ?_
          refine blk_n ?_
          refine then_n ?_
          refine region_plain (n := 2) [(0, .p), (1, .p)] rfl rfl ?_
          refine Run.add rfl E rfl rfl rfl rfl (i64_ok (by omega)) ?_; clear E a; intro a E
          refine Run.move rfl E rfl rfl rfl ?_; clear E a; intro a E
          refine Run.nil ?_
          refine then_n ?_
          replace E := E.setv 61 rfl (show Value.int .i64 ((i : Int) + 1) = .int .i64 ((i + 1 : Nat) : Int) from rfl)
          have S : St _ _ _ [_, _, _, _] := S.sel [3, 0, 1, 2] _ rfl rfl
          have S := S.drop1
          exact ⟨_, (by omega), (i + 1), A12, c13, B14, d15, rfl, E.keeps [(0, _), (4, _), (5, _), (59, _), (60, _), (61, _)] ⟨rfl, rfl, rfl, rfl, rfl, rfl, trivial⟩, S, hlt⟩
        · skip
          have e0 : above.take i = above := List.take_of_length_le (by omega)
          rw [e0] at S
          refine Run.lss rfl E rfl rfl rfl rfl (decide_eq_false (by omega)) ?_; clear E a; intro a E
          refine Run.nil ?_
          refine then_n ?_
          refine wp_seq ?_
          refine cond_F E rfl ?_
          refine wp_exit ?_
          refine then_x ?_
          refine then_x ?_
          refine blk_x ?_
          refine then_n ?_
          refine wp_seq ?_
          refine region_plain (n := 8) [(0, .p), (1, .l), (2, .p), (3, .p), (4, .p), (5, .e), (6, .l), (7, .p)] rfl rfl ?_
          refine Run.move rfl E rfl rfl rfl ?_; clear E a; intro a E
          refine Run.call (args := [.pointer (some ⟨g1, 0, none⟩)]) rfl rfl E rfl rfl Try.func31 nm31 rfl rfl (by have := cut_any (St.ownL (A := (Pile g1 pA pc_ pB pd 5000 ((below.length + 1 + i : Nat) : Int) (below ++ [(Ent.mk true 0 0 0 0 77)] ++ above.map unb) (barIdx (below ++ [(Ent.mk true 0 0 0 0 77)] ++ above.map unb)))) (R := []) S) (by simp; omega); rw [hcl, hbe, hat] at this; exact this) ?_; rintro e_ w ⟨rfl, S_⟩; refine ⟨_, rfl, (fun h => by cases h), ?_⟩; clear E a; intro a E
          replace S : St _ _ _ [.obj _ _ [_, _, _, _], _, _] := St.call (A := (Pile g1 pA pc_ pB pd 5000 ((below.length + 1 + i : Nat) : Int) (below ++ [(Ent.mk true 0 0 0 0 77)] ++ above.map unb) (barIdx (below ++ [(Ent.mk true 0 0 0 0 77)] ++ above.map unb)))) (R := []) S S_; clear S_
          refine Run.move rfl E rfl rfl rfl ?_; clear E a; intro a E
          refine Run.extract rfl E rfl rfl rfl rfl ?_; clear E a; intro a E
          refine Run.extract rfl E rfl rfl rfl rfl ?_; clear E a; intro a E
          refine Run.alloc rfl rfl E S rfl rfl z43 rfl ?_; clear E a S; intro b16 w a E S B_; clear B_
          refine Run.store (news := [.bool true, .int .i64 0, .int .i64 0, .int .i64 0, .int .i64 0, .int .i64 77]) (cs' := [_, _, _, _, _, _]) (hp' := [_, _, _, _]) 0 rfl E S rfl rfl rfl rfl rfl sz43 rfl rfl rfl rfl ?_; clear S; intro w S
          refine Run.assign rfl E rfl rfl rfl ?_; clear E a; intro a E
          refine Run.nil ?_
          refine then_n ?_
          refine wp_seq ?_
          refine region_plain (n := 8) [(0, .p), (1, .e), (2, .p), (3, .p), (4, .p), (5, .e), (6, .l), (7, .p)] rfl rfl ?_
          refine Run.move rfl E rfl rfl rfl ?_; clear E a; intro a E
          refine Run.call (args := [.pointer (some ⟨g1, 0, none⟩)]) rfl rfl E rfl rfl Try.func32 nm32 rfl rfl (top_any (St.holdsL (A := (Pile g1 pA pc_ pB pd 5000 ((below.length + 1 + i : Nat) : Int) below (barIdx below))) (R := [_]) (S.sel [1, 2, 3, 0] ((Pile g1 pA pc_ pB pd 5000 ((below.length + 1 + i : Nat) : Int) below (barIdx below)) ++ [_]) rfl rfl)) (by omega)) ?_; rintro e_ w ⟨rfl, B_⟩; refine ⟨_, rfl, fun _ => B_, ?_⟩; clear E a; replace S := S.bel B_; intro a E
          clear B_
          refine Run.move rfl E rfl rfl rfl ?_; clear E a; intro a E
          refine Run.extract rfl E rfl rfl rfl rfl ?_; clear E a; intro a E
          refine Run.extract rfl E rfl rfl rfl rfl ?_; clear E a; intro a E
          refine Run.alloc rfl rfl E S rfl rfl z43 rfl ?_; clear E a S; intro b17 w a E S B_; clear B_
          refine Run.store (news := [.bool ((lastE below).bar), .int .i64 ((lastE below).pc), .int .i64 ((lastE below).pos), .int .i64 ((lastE below).mark), .int .i64 ((lastE below).org), .int .i64 ((lastE below).val)]) (cs' := [_, _, _, _, _, _]) (hp' := [_, _, _, _, _]) 0 rfl E S rfl rfl rfl rfl rfl sz43 rfl rfl rfl rfl ?_; clear S; intro w S
          refine Run.assign rfl E rfl rfl rfl ?_; clear E a; intro a E
          refine Run.nil ?_
          refine then_n ?_
          refine wp_seq ?_
          refine region_plain (n := 3) [(0, .p), (1, .e), (2, .p)] rfl rfl ?_
          refine Run.move rfl E rfl rfl rfl ?_; clear E a; intro a E
          refine Run.call (args := [.slice A below.length c]) rfl rfl E rfl rfl Try.func33 nm33 rfl rfl (law_bar (H1.bel S.belT) (by omega)) ?_; rintro e_ w ⟨rfl, B_⟩; refine ⟨_, rfl, fun _ => B_, ?_⟩; clear E a; replace S := S.bel B_; intro a E
          clear B_
          refine Run.assign rfl E rfl rfl rfl ?_; clear E a; intro a E
          refine Run.nil ?_
          refine then_n ?_
          refine wp_seq ?_
          refine region_plain (n := 8) [(0, .p), (1, .e), (2, .p), (3, .p), (4, .p), (5, .e), (6, .l), (7, .p)] rfl rfl ?_
          refine Run.move rfl E rfl rfl rfl ?_; clear E a; intro a E
          refine Run.call (args := [.pointer (some ⟨g1, 0, none⟩)]) rfl rfl E rfl rfl Try.func34 nm34 rfl rfl (bar_any (St.holdsL (A := (Pile g1 pA pc_ pB pd 5000 ((below.length + 1 + i : Nat) : Int) below (barIdx below))) (R := [_, _]) (S.sel [2, 3, 4, 0, 1] ((Pile g1 pA pc_ pB pd 5000 ((below.length + 1 + i : Nat) : Int) below (barIdx below)) ++ [_, _]) rfl rfl)) (by omega)) ?_; rintro e_ w ⟨rfl, B_⟩; refine ⟨_, rfl, fun _ => B_, ?_⟩; clear E a; replace S := S.bel B_; intro a E
          clear B_
          refine Run.move rfl E rfl rfl rfl ?_; clear E a; intro a E
          refine Run.extract rfl E rfl rfl rfl rfl ?_; clear E a; intro a E
          refine Run.extract rfl E rfl rfl rfl rfl ?_; clear E a; intro a E
          refine Run.alloc rfl rfl E S rfl rfl z43 rfl ?_; clear E a S; intro b18 w a E S B_; clear B_
          refine Run.store (news := [.bool ((barE below).bar), .int .i64 ((barE below).pc), .int .i64 ((barE below).pos), .int .i64 ((barE below).mark), .int .i64 ((barE below).org), .int .i64 ((barE below).val)]) (cs' := [_, _, _, _, _, _]) (hp' := [_, _, _, _, _, _]) 0 rfl E S rfl rfl rfl rfl rfl sz43 rfl rfl rfl rfl ?_; clear S; intro w S
          refine Run.assign rfl E rfl rfl rfl ?_; clear E a; intro a E
          refine Run.nil ?_
          refine then_n ?_
          refine wp_seq ?_
          by_cases hat : 0 ≤ barAt below
          · skip
            obtain ⟨bA, oA, rfl, hA⟩ := H1.place (by have := barAt_lt below hat; omega)
            replace E := E.setb 17 rfl (decide_eq_true hat)
            refine region_drawS (n := 45) [(0, .p), (1, .p), (3, .p), (2, .t), (4, .p), (5, .p), (6, .p), (7, .p), (9, .p), (10, .p), (8, .e), (11, .p), (12, .p), (13, .p), (14, .p), (15, .p), (16, .p), (17, .p), (18, .p), (19, .p), (20, .p), (22, .p), (21, .t), (23, .e), (24, .p), (25, .p), (26, .p), (27, .p), (28, .p), (29, .p), (30, .p), (31, .p), (32, .p), (33, .p), (34, .p), (35, .p), (37, .p), (38, .p), (39, .p), (36, .t), (40, .t), (41, .p), (42, .p), (43, .p), (44, .p)] [0, 1, 3, 3, 15, 31, 63, 127, 255, 127, 639, 2047, 4095, 8191, 16383, 16383, 49151, 114687, 262143, 524287, 1048575, 2097151, 2097151, 6291455, 16777215, 33554431, 67108863, 134217727, 134217727, 402653183, 1073741823, 2147483647, 4294967295, 8589934591, 17179869183, 34359738367, 68719476735, 68719476735, 68719476735, 481036337151, 1030792151039, 2199023255551, 4398046511103, 8796093022207, 17592186044415] S mixed rfl rfl (by kernel_rfl) (fun _ _ _ _ _ h => h) ?_; clear S; intro w S B_; clear B_
            refine Run.move rfl E rfl rfl rfl ?_; clear E a; intro a E
            refine Run.move rfl E rfl rfl rfl ?_; clear E a; intro a E
            refine Run.build (cs := #[.bool true, .int .i64 0, .int .i64 0, .int .i64 0, .int .i64 0, .int .i64 77]) [(0, .bool true), (5, .int .i64 77)] rfl E rfl rfl rfl rfl ?_; clear E a; intro a E
            refine Run.loadN (cs := [.bool true, .int .i64 0, .int .i64 0, .int .i64 0, .int .i64 0, .int .i64 77]) rfl rfl E S rfl rfl rfl ag43 rfl (fun _ s => objAll s 2 rfl) ?_; clear E a; intro a E
            refine Run.bin (v := .bool true) rfl E rfl rfl rfl rfl (fun w => (run_eq43 _ _ ((Ent.mk true 0 0 0 0 77)) ((Ent.mk true 0 0 0 0 77)) w).trans (by rw [decide_eq_true (rfl)])) ?_; clear E a; intro a E
            refine Run.pickT rfl E rfl rfl rfl rfl ?_; clear E a; intro a E
            refine Run.move rfl E rfl rfl rfl ?_; clear E a; intro a E
            refine Run.move rfl E rfl rfl rfl ?_; clear E a; intro a E
            refine Run.move rfl E rfl rfl rfl ?_; clear E a; intro a E
            refine Run.len rfl E rfl rfl rfl Try.underlying38 ?_; clear E a; intro a E
            refine Run.call (args := [.pointer (some ⟨g1, 0, none⟩)]) rfl rfl E rfl rfl Try.func35 nm35 rfl rfl (pile_len (St.holdsL (A := (Pile g1 pA pc_ pB pd 5000 ((below.length + 1 + i : Nat) : Int) below (barIdx below))) (R := [_, _, _]) (S.sel [3, 4, 5, 0, 1, 2] ((Pile g1 pA pc_ pB pd 5000 ((below.length + 1 + i : Nat) : Int) below (barIdx below)) ++ [_, _, _]) rfl rfl))) ?_; rintro e_ w ⟨rfl, B_⟩; refine ⟨_, rfl, fun _ => B_, ?_⟩; clear E a; replace S := S.bel B_; intro a E
            clear B_
            refine Run.eqi rfl E rfl rfl rfl rfl (decide_eq_true (by rfl)) ?_; clear E a; intro a E
            refine Run.pickT rfl E rfl rfl rfl rfl ?_; clear E a; intro a E
            refine Run.move rfl E rfl rfl rfl ?_; clear E a; intro a E
            refine Run.move rfl E rfl rfl rfl ?_; clear E a; intro a E
            refine Run.move rfl E rfl rfl rfl ?_; clear E a; intro a E
            refine Run.len rfl E rfl rfl rfl Try.underlying38 ?_; clear E a; intro a E
            refine Run.gtr rfl E rfl rfl rfl rfl rfl ?_; clear E a; intro a E
            refine Run.eqb (c := true) rfl E rfl rfl rfl rfl Try.underlying4 (by simp) ?_; clear E a; intro a E
            refine Run.pickT rfl E rfl rfl rfl rfl ?_; clear E a; intro a E
            refine Run.move rfl E rfl rfl rfl ?_; clear E a; intro a E
            refine Run.move rfl E rfl rfl rfl ?_; clear E a; intro a E
            refine Run.loadN (cs := [.bool ((lastE below).bar), .int .i64 ((lastE below).pc), .int .i64 ((lastE below).pos), .int .i64 ((lastE below).mark), .int .i64 ((lastE below).org), .int .i64 ((lastE below).val)]) rfl rfl E S rfl rfl rfl ag43 rfl (fun _ s => objAll s 1 rfl) ?_; clear E a; intro a E
            refine Run.call (args := [.slice (some ⟨bA, oA, none⟩) below.length c]) rfl rfl E rfl rfl Try.func36 nm36 rfl rfl (law_last (H1.bel S.belT) (by omega)) ?_; rintro e_ w ⟨rfl, B_⟩; refine ⟨_, rfl, fun _ => B_, ?_⟩; clear E a; replace S := S.bel B_; intro a E
            clear B_
            refine Run.bin (v := .bool true) rfl E rfl rfl rfl rfl (fun w => (run_eq43 _ _ (lastE below) (lastE below) w).trans (by rw [decide_eq_true (rfl)])) ?_; clear E a; intro a E
            refine Run.pickT rfl E rfl rfl rfl rfl ?_; clear E a; intro a E
            refine Run.move rfl E rfl rfl rfl ?_; clear E a; intro a E
            refine Run.move rfl E rfl rfl rfl ?_; clear E a; intro a E
            refine Run.move rfl E rfl rfl rfl ?_; clear E a; intro a E
            refine Run.geq rfl E rfl rfl rfl rfl (decide_eq_true (by omega)) ?_; clear E a; intro a E
            refine Run.eqb (c := true) rfl E rfl rfl rfl rfl Try.underlying4 (by rfl) ?_; clear E a; intro a E
            refine Run.pickT rfl E rfl rfl rfl rfl ?_; clear E a; intro a E
            refine Run.move rfl E rfl rfl rfl ?_; clear E a; intro a E
            refine Run.move rfl E rfl rfl rfl ?_; clear E a; intro a E
            refine Run.not rfl E rfl rfl rfl rfl ?_; clear E a; intro a E
            refine Run.move rfl E rfl rfl rfl ?_; clear E a; intro a E
            refine Run.move rfl E rfl rfl rfl ?_; clear E a; intro a E
            refine Run.move rfl E rfl rfl rfl ?_; clear E a; intro a E
            refine Run.indexAddr rfl E rfl rfl rfl rfl Try.underlying38 sz43 (⟨hat, by have := barAt_lt below hat; omega⟩) (ix_at' (m' := (barAt below).toNat) (by omega)) ?_; clear E a; intro a E
            refine Run.loadN (cs := [.bool ((barE below).bar), .int .i64 ((barE below).pc), .int .i64 ((barE below).pos), .int .i64 ((barE below).mark), .int .i64 ((barE below).org), .int .i64 ((barE below).val)]) rfl rfl E S rfl rfl rfl ag43 rfl (fun _ s => objAll s 0 rfl) ?_; clear E a; intro a E
            refine Run.loadN (cs := [.bool ((barE below).bar), .int .i64 ((barE below).pc), .int .i64 ((barE below).pos), .int .i64 ((barE below).mark), .int .i64 ((barE below).org), .int .i64 ((barE below).val)]) rfl rfl E S rfl rfl rfl ag43 rfl (fun _ s => rdAtL hA s _ _ (ents_get (barE_at hat))) ?_; clear E a; intro a E
            refine Run.bin (v := .bool true) rfl E rfl rfl rfl rfl (fun w => (run_eq43 _ _ (barE below) (barE below) w).trans (by rw [decide_eq_true (rfl)])) ?_; clear E a; intro a E
            refine Run.pickF rfl E rfl rfl rfl rfl ?_; clear E a; intro a E
            refine Run.pickT rfl E rfl rfl rfl rfl ?_; clear E a; intro a E
            refine Run.assign rfl E rfl rfl rfl ?_; clear E a; intro a E
            refine Run.nil ?_
            refine then_n ?_
            refine wp_ret ?_
            exact ret1 E Try.results4 rfl ⟨rfl, S.belT⟩
          · skip
            replace E := E.setb 17 rfl (decide_eq_false hat)
            refine region_drawS (n := 45) [(0, .p), (1, .p), (3, .p), (2, .t), (4, .p), (5, .p), (6, .p), (7, .p), (9, .p), (10, .p), (8, .e), (11, .p), (12, .p), (13, .p), (14, .p), (15, .p), (16, .p), (17, .p), (18, .p), (19, .p), (20, .p), (22, .p), (21, .t), (23, .e), (24, .p), (25, .p), (26, .p), (27, .p), (28, .p), (29, .p), (30, .p), (31, .p), (32, .p), (33, .p), (34, .p), (35, .p), (36, .p), (37, .p), (38, .p), (39, .p), (40, .p), (41, .p), (42, .p), (43, .p), (44, .p)] [0, 1, 3, 3, 15, 31, 63, 127, 255, 127, 639, 2047, 4095, 8191, 16383, 16383, 49151, 114687, 262143, 524287, 1048575, 2097151, 2097151, 6291455, 16777215, 33554431, 67108863, 134217727, 134217727, 402653183, 1073741823, 2147483647, 4294967295, 8589934591, 17179869183, 34359738367, 68719476735, 68719476735, 68719476735, 481036337151, 1030792151039, 2199023255551, 4398046511103, 8796093022207, 17592186044415] S mixed rfl rfl (by kernel_rfl) (fun _ _ _ _ _ h => h) ?_; clear S; intro w S B_; clear B_
            refine Run.move rfl E rfl rfl rfl ?_; clear E a; intro a E
            refine Run.move rfl E rfl rfl rfl ?_; clear E a; intro a E
            refine Run.build (cs := #[.bool true, .int .i64 0, .int .i64 0, .int .i64 0, .int .i64 0, .int .i64 77]) [(0, .bool true), (5, .int .i64 77)] rfl E rfl rfl rfl rfl ?_; clear E a; intro a E
            refine Run.loadN (cs := [.bool true, .int .i64 0, .int .i64 0, .int .i64 0, .int .i64 0, .int .i64 77]) rfl rfl E S rfl rfl rfl ag43 rfl (fun _ s => objAll s 2 rfl) ?_; clear E a; intro a E
            refine Run.bin (v := .bool true) rfl E rfl rfl rfl rfl (fun w => (run_eq43 _ _ ((Ent.mk true 0 0 0 0 77)) ((Ent.mk true 0 0 0 0 77)) w).trans (by rw [decide_eq_true (rfl)])) ?_; clear E a; intro a E
            refine Run.pickT rfl E rfl rfl rfl rfl ?_; clear E a; intro a E
            refine Run.move rfl E rfl rfl rfl ?_; clear E a; intro a E
            refine Run.move rfl E rfl rfl rfl ?_; clear E a; intro a E
            refine Run.move rfl E rfl rfl rfl ?_; clear E a; intro a E
            refine Run.len rfl E rfl rfl rfl Try.underlying38 ?_; clear E a; intro a E
            refine Run.call (args := [.pointer (some ⟨g1, 0, none⟩)]) rfl rfl E rfl rfl Try.func35 nm35 rfl rfl (pile_len (St.holdsL (A := (Pile g1 pA pc_ pB pd 5000 ((below.length + 1 + i : Nat) : Int) below (barIdx below))) (R := [_, _, _]) (S.sel [3, 4, 5, 0, 1, 2] ((Pile g1 pA pc_ pB pd 5000 ((below.length + 1 + i : Nat) : Int) below (barIdx below)) ++ [_, _, _]) rfl rfl))) ?_; rintro e_ w ⟨rfl, B_⟩; refine ⟨_, rfl, fun _ => B_, ?_⟩; clear E a; replace S := S.bel B_; intro a E
            clear B_
            refine Run.eqi rfl E rfl rfl rfl rfl (decide_eq_true (by rfl)) ?_; clear E a; intro a E
            refine Run.pickT rfl E rfl rfl rfl rfl ?_; clear E a; intro a E
            refine Run.move rfl E rfl rfl rfl ?_; clear E a; intro a E
            refine Run.move rfl E rfl rfl rfl ?_; clear E a; intro a E
            refine Run.move rfl E rfl rfl rfl ?_; clear E a; intro a E
            refine Run.len rfl E rfl rfl rfl Try.underlying38 ?_; clear E a; intro a E
            refine Run.gtr rfl E rfl rfl rfl rfl rfl ?_; clear E a; intro a E
            refine Run.eqb (c := true) rfl E rfl rfl rfl rfl Try.underlying4 (by simp) ?_; clear E a; intro a E
            refine Run.pickT rfl E rfl rfl rfl rfl ?_; clear E a; intro a E
            refine Run.move rfl E rfl rfl rfl ?_; clear E a; intro a E
            refine Run.move rfl E rfl rfl rfl ?_; clear E a; intro a E
            refine Run.loadN (cs := [.bool ((lastE below).bar), .int .i64 ((lastE below).pc), .int .i64 ((lastE below).pos), .int .i64 ((lastE below).mark), .int .i64 ((lastE below).org), .int .i64 ((lastE below).val)]) rfl rfl E S rfl rfl rfl ag43 rfl (fun _ s => objAll s 1 rfl) ?_; clear E a; intro a E
            refine Run.call (args := [.slice A below.length c]) rfl rfl E rfl rfl Try.func36 nm36 rfl rfl (law_last (H1.bel S.belT) (by omega)) ?_; rintro e_ w ⟨rfl, B_⟩; refine ⟨_, rfl, fun _ => B_, ?_⟩; clear E a; replace S := S.bel B_; intro a E
            clear B_
            refine Run.bin (v := .bool true) rfl E rfl rfl rfl rfl (fun w => (run_eq43 _ _ (lastE below) (lastE below) w).trans (by rw [decide_eq_true (rfl)])) ?_; clear E a; intro a E
            refine Run.pickT rfl E rfl rfl rfl rfl ?_; clear E a; intro a E
            refine Run.move rfl E rfl rfl rfl ?_; clear E a; intro a E
            refine Run.move rfl E rfl rfl rfl ?_; clear E a; intro a E
            refine Run.move rfl E rfl rfl rfl ?_; clear E a; intro a E
            refine Run.geq rfl E rfl rfl rfl rfl (decide_eq_false (hat)) ?_; clear E a; intro a E
            refine Run.eqb (c := true) rfl E rfl rfl rfl rfl Try.underlying4 (by rfl) ?_; clear E a; intro a E
            refine Run.pickT rfl E rfl rfl rfl rfl ?_; clear E a; intro a E
            refine Run.move rfl E rfl rfl rfl ?_; clear E a; intro a E
            refine Run.move rfl E rfl rfl rfl ?_; clear E a; intro a E
            refine Run.not rfl E rfl rfl rfl rfl ?_; clear E a; intro a E
            refine Run.move rfl E rfl rfl rfl ?_; clear E a; intro a E
            refine Run.off rfl E rfl rfl ?_; clear E a; intro a E
            refine Run.off rfl E rfl rfl ?_; clear E a; intro a E
            refine Run.off rfl E rfl rfl ?_; clear E a; intro a E
            refine Run.off rfl E rfl rfl ?_; clear E a; intro a E
            refine Run.off rfl E rfl rfl ?_; clear E a; intro a E
            refine Run.off rfl E rfl rfl ?_; clear E a; intro a E
            refine Run.pickT rfl E rfl rfl rfl rfl ?_; clear E a; intro a E
            refine Run.pickT rfl E rfl rfl rfl rfl ?_; clear E a; intro a E
            refine Run.assign rfl E rfl rfl rfl ?_; clear E a; intro a E
            refine Run.nil ?_
            refine then_n ?_
            refine wp_ret ?_
            exact ret1 E Try.results4 rfl ⟨rfl, S.belT⟩

theorem pop_take_any {g c d : Nat} {A B : Option Addr} {lim most : Int} {l : List Ent} {i m : Nat} {w0 : World} (H : Own w0 (Pile g A c B d lim most (l.take (m - i)) (barIdx (l.take (m - i))))) (hi : i < m) (hm : m ≤ l.length) (hl : l.length ≤ 140737488355328) :
    Calls Try.prog 45 [.pointer (some ⟨g, 0, none⟩)].toArray w0 (fun r w' => r = .returned (.tuple #[.agg #[.bool (l[m - 1 - i]).bar, .int .i64 (l[m - 1 - i]).pc, .int .i64 (l[m - 1 - i]).pos, .int .i64 (l[m - 1 - i]).mark, .int .i64 (l[m - 1 - i]).org, .int .i64 (l[m - 1 - i]).val], .bool true]) ∧ St (fps (Pile g A c B d lim most (l.take (m - i)) (barIdx (l.take (m - i))))) w0 w' (Pile g A c B d lim most (l.take (m - (i + 1))) (barIdx (l.take (m - (i + 1)))))) := by
  have h := pop_any H (by simp; omega)
  have e1 : lastE (l.take (m - i)) = l[m - 1 - i] := by
    have h0 : m - i = (m - 1 - i) + 1 := by omega
    rw [h0, List.take_succ_eq_append_getElem (by omega), lastE_snoc]
  have e2 : (l.take (m - i)).dropLast = l.take (m - (i + 1)) := by
    rw [List.dropLast_eq_take, List.take_take, List.length_take]; congr 1; omega
  have e3 : decide (0 < (l.take (m - i)).length) = true := decide_eq_true (by simp; omega)
  rw [e1, e2, e3] at h
  exact h

theorem takes_low {A : Option Addr} {c : Nat} {l : List Ent} {limit : Int} (H1 : Rd w0 A l.length 6 (ents l)) (hml0 : l.length ≤ 140737488355328) (h : limit < 0) : Calls Try.prog 7 [.int .i64 limit, .slice A l.length c].toArray w0 (fun r w' => r = .returned (.bool true) ∧ Bel w0 w') := by
  have S := St.nil [] w0
  refine fn_start Try.func7 rfl 94 rfl rfl [(0, _), (1, _)] ⟨rfl, rfl, trivial⟩ ?_; intro a E
  refine wp_seq ?_
  refine region_plain (n := 1) [(0, .p)] rfl rfl ?_
  refine Run.assign rfl E rfl rfl rfl ?_; clear E a; intro a E
  refine Run.nil ?_
  refine then_n ?_
  refine wp_seq ?_
  refine wp_seq ?_
  refine region_plain (n := 2) [(0, .e), (1, .p)] rfl rfl ?_
  refine Run.call (args := []) rfl rfl E rfl rfl Try.func28 nm28 rfl rfl (anchor16) ?_; rintro e_ w ⟨rfl, B_⟩; refine ⟨_, rfl, fun _ => B_, ?_⟩; clear E a; replace S := S.bel B_; intro a E
  clear B_
  refine Run.not rfl E rfl rfl rfl rfl ?_; clear E a; intro a E
  refine Run.nil ?_
  refine then_n ?_
  refine cond_F E rfl ?_
  refine wp_skip ?_
  refine then_n ?_
  refine wp_seq ?_
  refine region_plain (n := 7) [(0, .p), (1, .e), (2, .p), (3, .p), (4, .p), (5, .p), (6, .p)] rfl rfl ?_
  refine Run.move rfl E rfl rfl rfl ?_; clear E a; intro a E
  refine Run.call (args := [.int .i64 limit]) rfl rfl E rfl rfl Try.func29 nm29 rfl rfl (pile_new_low h) ?_; rintro e_ w ⟨rfl, B_⟩; refine ⟨_, rfl, fun _ => B_, ?_⟩; clear E a; replace S := S.bel B_; intro a E
  clear B_
  refine Run.move rfl E rfl rfl rfl ?_; clear E a; intro a E
  refine Run.extract rfl E rfl rfl rfl rfl ?_; clear E a; intro a E
  refine Run.extract rfl E rfl rfl rfl rfl ?_; clear E a; intro a E
  refine Run.assign rfl E rfl rfl rfl ?_; clear E a; intro a E
  refine Run.assign rfl E rfl rfl rfl ?_; clear E a; intro a E
  refine Run.nil ?_
  refine then_n ?_
  refine wp_seq ?_
  refine wp_seq ?_
  refine region_plain (n := 11) [(0, .p), (1, .p), (2, .p), (3, .p), (4, .p), (5, .p), (6, .p), (7, .p), (8, .p), (9, .p), (10, .p)] rfl rfl ?_
  refine Run.move rfl E rfl rfl rfl ?_; clear E a; intro a E
  refine Run.nei rfl E rfl rfl rfl rfl (b := true) (by decide) ?_; clear E a; intro a E
  refine Run.move rfl E rfl rfl rfl ?_; clear E a; intro a E
  refine Run.off rfl E rfl rfl ?_; clear E a; intro a E
  refine Run.off rfl E rfl rfl ?_; clear E a; intro a E
  refine Run.pickT rfl E rfl rfl rfl rfl ?_; clear E a; intro a E
  refine Run.move rfl E rfl rfl rfl ?_; clear E a; intro a E
  refine Run.off rfl E rfl rfl ?_; clear E a; intro a E
  refine Run.off rfl E rfl rfl ?_; clear E a; intro a E
  refine Run.off rfl E rfl rfl ?_; clear E a; intro a E
  refine Run.pickT rfl E rfl rfl rfl rfl ?_; clear E a; intro a E
  refine Run.nil ?_
  refine then_n ?_
  refine cond_T E rfl ?_
  refine wp_seq ?_
  refine region_plain (n := 12) [(0, .p), (1, .p), (2, .p), (3, .p), (4, .p), (5, .p), (6, .p), (7, .p), (8, .p), (9, .p), (10, .p), (11, .p)] rfl rfl ?_
  refine Run.move rfl E rfl rfl rfl ?_; clear E a; intro a E
  refine Run.lss rfl E rfl rfl rfl rfl (decide_eq_true (h)) ?_; clear E a; intro a E
  refine Run.move rfl E rfl rfl rfl ?_; clear E a; intro a E
  refine Run.off rfl E rfl rfl ?_; clear E a; intro a E
  refine Run.off rfl E rfl rfl ?_; clear E a; intro a E
  refine Run.pickT rfl E rfl rfl rfl rfl ?_; clear E a; intro a E
  refine Run.move rfl E rfl rfl rfl ?_; clear E a; intro a E
  refine Run.off rfl E rfl rfl ?_; clear E a; intro a E
  refine Run.off rfl E rfl rfl ?_; clear E a; intro a E
  refine Run.off rfl E rfl rfl ?_; clear E a; intro a E
  refine Run.pickT rfl E rfl rfl rfl rfl ?_; clear E a; intro a E
  refine Run.assign rfl E rfl rfl rfl ?_; clear E a; intro a E
  refine Run.nil ?_
  refine then_n ?_
  refine wp_ret ?_
  refine then_r ?_
  exact ret1 E Try.results7 rfl ⟨rfl, S.belT⟩

theorem takes_high {A : Option Addr} {c : Nat} {l : List Ent} {limit : Int} (H1 : Rd w0 A l.length 6 (ents l)) (hml0 : l.length ≤ 140737488355328) (h : 65536 < limit) : Calls Try.prog 7 [.int .i64 limit, .slice A l.length c].toArray w0 (fun r w' => r = .returned (.bool true) ∧ Bel w0 w') := by
  have S := St.nil [] w0
  refine fn_start Try.func7 rfl 94 rfl rfl [(0, _), (1, _)] ⟨rfl, rfl, trivial⟩ ?_; intro a E
  refine wp_seq ?_
  refine region_plain (n := 1) [(0, .p)] rfl rfl ?_
  refine Run.assign rfl E rfl rfl rfl ?_; clear E a; intro a E
  refine Run.nil ?_
  refine then_n ?_
  refine wp_seq ?_
  refine wp_seq ?_
  refine region_plain (n := 2) [(0, .e), (1, .p)] rfl rfl ?_
  refine Run.call (args := []) rfl rfl E rfl rfl Try.func28 nm28 rfl rfl (anchor16) ?_; rintro e_ w ⟨rfl, B_⟩; refine ⟨_, rfl, fun _ => B_, ?_⟩; clear E a; replace S := S.bel B_; intro a E
  clear B_
  refine Run.not rfl E rfl rfl rfl rfl ?_; clear E a; intro a E
  refine Run.nil ?_
  refine then_n ?_
  refine cond_F E rfl ?_
  refine wp_skip ?_
  refine then_n ?_
  refine wp_seq ?_
  refine region_plain (n := 7) [(0, .p), (1, .e), (2, .p), (3, .p), (4, .p), (5, .p), (6, .p)] rfl rfl ?_
  refine Run.move rfl E rfl rfl rfl ?_; clear E a; intro a E
  refine Run.call (args := [.int .i64 limit]) rfl rfl E rfl rfl Try.func29 nm29 rfl rfl (pile_new_high (by omega) h) ?_; rintro e_ w ⟨rfl, B_⟩; refine ⟨_, rfl, fun _ => B_, ?_⟩; clear E a; replace S := S.bel B_; intro a E
  clear B_
  refine Run.move rfl E rfl rfl rfl ?_; clear E a; intro a E
  refine Run.extract rfl E rfl rfl rfl rfl ?_; clear E a; intro a E
  refine Run.extract rfl E rfl rfl rfl rfl ?_; clear E a; intro a E
  refine Run.assign rfl E rfl rfl rfl ?_; clear E a; intro a E
  refine Run.assign rfl E rfl rfl rfl ?_; clear E a; intro a E
  refine Run.nil ?_
  refine then_n ?_
  refine wp_seq ?_
  refine wp_seq ?_
  refine region_plain (n := 11) [(0, .p), (1, .p), (2, .p), (3, .p), (4, .p), (5, .p), (6, .p), (7, .p), (8, .p), (9, .p), (10, .p)] rfl rfl ?_
  refine Run.move rfl E rfl rfl rfl ?_; clear E a; intro a E
  refine Run.nei rfl E rfl rfl rfl rfl (b := true) (by decide) ?_; clear E a; intro a E
  refine Run.move rfl E rfl rfl rfl ?_; clear E a; intro a E
  refine Run.off rfl E rfl rfl ?_; clear E a; intro a E
  refine Run.off rfl E rfl rfl ?_; clear E a; intro a E
  refine Run.pickT rfl E rfl rfl rfl rfl ?_; clear E a; intro a E
  refine Run.move rfl E rfl rfl rfl ?_; clear E a; intro a E
  refine Run.off rfl E rfl rfl ?_; clear E a; intro a E
  refine Run.off rfl E rfl rfl ?_; clear E a; intro a E
  refine Run.off rfl E rfl rfl ?_; clear E a; intro a E
  refine Run.pickT rfl E rfl rfl rfl rfl ?_; clear E a; intro a E
  refine Run.nil ?_
  refine then_n ?_
  refine cond_T E rfl ?_
  refine wp_seq ?_
  refine region_plain (n := 12) [(0, .p), (1, .p), (2, .p), (3, .p), (4, .p), (5, .p), (6, .p), (7, .p), (8, .p), (9, .p), (10, .p), (11, .p)] rfl rfl ?_
  refine Run.move rfl E rfl rfl rfl ?_; clear E a; intro a E
  refine Run.lss rfl E rfl rfl rfl rfl (decide_eq_false (by omega)) ?_; clear E a; intro a E
  refine Run.move rfl E rfl rfl rfl ?_; clear E a; intro a E
  refine Run.move rfl E rfl rfl rfl ?_; clear E a; intro a E
  refine Run.gtr rfl E rfl rfl rfl rfl (decide_eq_true (h)) ?_; clear E a; intro a E
  refine Run.pickF rfl E rfl rfl rfl rfl ?_; clear E a; intro a E
  refine Run.move rfl E rfl rfl rfl ?_; clear E a; intro a E
  refine Run.off rfl E rfl rfl ?_; clear E a; intro a E
  refine Run.off rfl E rfl rfl ?_; clear E a; intro a E
  refine Run.off rfl E rfl rfl ?_; clear E a; intro a E
  refine Run.pickT rfl E rfl rfl rfl rfl ?_; clear E a; intro a E
  refine Run.assign rfl E rfl rfl rfl ?_; clear E a; intro a E
  refine Run.nil ?_
  refine then_n ?_
  refine wp_ret ?_
  refine then_r ?_
  exact ret1 E Try.results7 rfl ⟨rfl, S.belT⟩

theorem takes_mid {A : Option Addr} {c : Nat} {l : List Ent} {limit : Int} (H1 : Rd w0 A l.length 6 (ents l)) (hml0 : l.length ≤ 140737488355328) (h0 : 0 ≤ limit) (h1 : limit ≤ 65536) : Calls Try.prog 7 [.int .i64 limit, .slice A l.length c].toArray w0 (fun r w' => r = .returned (.bool true) ∧ Bel w0 w') := by
  have S := St.nil [] w0
  obtain ⟨m, hm⟩ : ∃ m : Nat, (m : Int) = min (l.length : Int) limit := ⟨(min (l.length : Int) limit).toNat, by omega⟩
  have hml : m ≤ l.length := by omega
  refine fn_start Try.func7 rfl 94 rfl rfl [(0, _), (1, _)] ⟨rfl, rfl, trivial⟩ ?_; intro a E
  refine wp_seq ?_
  refine region_plain (n := 1) [(0, .p)] rfl rfl ?_
  refine Run.assign rfl E rfl rfl rfl ?_; clear E a; intro a E
  refine Run.nil ?_
  refine then_n ?_
  refine wp_seq ?_
  refine wp_seq ?_
  refine region_plain (n := 2) [(0, .e), (1, .p)] rfl rfl ?_
  refine Run.call (args := []) rfl rfl E rfl rfl Try.func28 nm28 rfl rfl (anchor16) ?_; rintro e_ w ⟨rfl, B_⟩; refine ⟨_, rfl, fun _ => B_, ?_⟩; clear E a; replace S := S.bel B_; intro a E
  clear B_
  refine Run.not rfl E rfl rfl rfl rfl ?_; clear E a; intro a E
  refine Run.nil ?_
  refine then_n ?_
  refine cond_F E rfl ?_
  refine wp_skip ?_
  refine then_n ?_
  refine wp_seq ?_
  refine region_plain (n := 7) [(0, .p), (1, .e), (2, .p), (3, .p), (4, .p), (5, .p), (6, .p)] rfl rfl ?_
  refine Run.move rfl E rfl rfl rfl ?_; clear E a; intro a E
  refine Run.call (args := [.int .i64 limit]) rfl rfl E rfl rfl Try.func29 nm29 rfl rfl (pile_new h0 h1) ?_; rintro e_ w ⟨g1, rfl, S_⟩; refine ⟨_, rfl, (fun _ => S_.belT), ?_⟩; clear E a; intro a E
  replace S : St _ _ _ [.obj _ _ [_, _, _, _], _, _] := St.call (A := []) (R := []) S S_; clear S_
  refine Run.move rfl E rfl rfl rfl ?_; clear E a; intro a E
  refine Run.extract rfl E rfl rfl rfl rfl ?_; clear E a; intro a E
  refine Run.extract rfl E rfl rfl rfl rfl ?_; clear E a; intro a E
  refine Run.assign rfl E rfl rfl rfl ?_; clear E a; intro a E
  refine Run.assign rfl E rfl rfl rfl ?_; clear E a; intro a E
  refine Run.nil ?_
  refine then_n ?_
  refine wp_seq ?_
  refine wp_seq ?_
  refine region_plain (n := 11) [(0, .p), (1, .p), (2, .p), (3, .p), (4, .p), (5, .p), (6, .p), (7, .p), (8, .p), (9, .p), (10, .p)] rfl rfl ?_
  refine Run.move rfl E rfl rfl rfl ?_; clear E a; intro a E
  refine Run.nei rfl E rfl rfl rfl rfl (b := false) (by decide) ?_; clear E a; intro a E
  refine Run.move rfl E rfl rfl rfl ?_; clear E a; intro a E
  refine Run.move rfl E rfl rfl rfl ?_; clear E a; intro a E
  refine Run.bin (v := .bool false) rfl E rfl rfl rfl rfl (fun _ => by kernel_rfl) ?_; clear E a; intro a E
  refine Run.pickF rfl E rfl rfl rfl rfl ?_; clear E a; intro a E
  refine Run.move rfl E rfl rfl rfl ?_; clear E a; intro a E
  refine Run.move rfl E rfl rfl rfl ?_; clear E a; intro a E
  refine Run.len rfl E rfl rfl rfl Try.underlying38 ?_; clear E a; intro a E
  by_cases hbig : 1000 < (l.length : Int)
  · skip
    refine Run.gtr rfl E rfl rfl rfl rfl (decide_eq_true (by omega)) ?_; clear E a; intro a E
    refine Run.pickF rfl E rfl rfl rfl rfl ?_; clear E a; intro a E
    refine Run.nil ?_
    refine then_n ?_
    refine cond_T E rfl ?_
    refine wp_seq ?_
    refine region_plain (n := 12) [(0, .p), (1, .p), (2, .p), (3, .p), (4, .p), (5, .p), (6, .p), (7, .p), (8, .p), (9, .p), (10, .p), (11, .p)] rfl rfl ?_
    refine Run.move rfl E rfl rfl rfl ?_; clear E a; intro a E
    refine Run.lss rfl E rfl rfl rfl rfl (decide_eq_false (by omega)) ?_; clear E a; intro a E
    refine Run.move rfl E rfl rfl rfl ?_; clear E a; intro a E
    refine Run.move rfl E rfl rfl rfl ?_; clear E a; intro a E
    refine Run.gtr rfl E rfl rfl rfl rfl (decide_eq_false (by omega)) ?_; clear E a; intro a E
    refine Run.pickF rfl E rfl rfl rfl rfl ?_; clear E a; intro a E
    refine Run.move rfl E rfl rfl rfl ?_; clear E a; intro a E
    refine Run.move rfl E rfl rfl rfl ?_; clear E a; intro a E
    refine Run.len rfl E rfl rfl rfl Try.underlying38 ?_; clear E a; intro a E
    refine Run.gtr rfl E rfl rfl rfl rfl (decide_eq_true (hbig)) ?_; clear E a; intro a E
    refine Run.pickF rfl E rfl rfl rfl rfl ?_; clear E a; intro a E
    refine Run.assign rfl E rfl rfl rfl ?_; clear E a; intro a E
    refine Run.nil ?_
    refine then_n ?_
    refine wp_ret ?_
    refine then_r ?_
    exact ret1 E Try.results7 rfl ⟨rfl, S.belT⟩
  · skip
    refine Run.gtr rfl E rfl rfl rfl rfl (decide_eq_false (by omega)) ?_; clear E a; intro a E
    refine Run.pickF rfl E rfl rfl rfl rfl ?_; clear E a; intro a E
    refine Run.nil ?_
    refine then_n ?_
    refine cond_F E rfl ?_
    refine wp_skip ?_
    refine then_n ?_
    refine wp_seq ?_
    refine wp_seq ?_
    refine region_plain (n := 3) [(0, .p), (1, .p), (2, .p)] rfl rfl ?_
    refine Run.move rfl E rfl rfl rfl ?_; clear E a; intro a E
    refine Run.len rfl E rfl rfl rfl Try.underlying38 ?_; clear E a; intro a E
    refine Run.move rfl E rfl rfl rfl ?_; clear E a; intro a E
    refine Run.nil ?_
    refine then_n ?_
    refine wp_block ?_
    replace S := St.cast S (show _ = Pile g1 none 0 none 0 limit ((min 0 m : Nat) : Int) (l.take (min 0 m)) (barIdx (l.take (min 0 m))) from by rw [Nat.zero_min]; rfl)
    refine wp_loop_ghost (fun n a w => ∃ i : Nat, ∃ pA : Option Addr, ∃ pc_ : Nat, ∃ pB : Option Addr, ∃ pd : Nat, l.length - i = n ∧ Env 94 [(0, .int .i64 limit), (1, .slice A l.length c), (4, .bool false), (5, .pointer (some ⟨g1, 0, none⟩)), (44, .slice A l.length c), (45, .int .i64 (l.length : Int)), (46, .int .i64 (i : Int))] a ∧ St _ _ w [.obj g1 130 [.int .i64 limit, .int .i64 ((min i m : Nat) : Int), .slice pA ((l.take (min i m)).length) pc_, .slice pB ((barIdx (l.take (min i m))).length) pd], .row (.slice pA ((l.take (min i m)).length) pc_) 43 6 ((l.take (min i m)).length) (ents (l.take (min i m))), .row (.slice pB ((barIdx (l.take (min i m))).length) pd) 3 1 ((barIdx (l.take (min i m))).length) (ints (barIdx (l.take (min i m))))] ∧ (i ≤ l.length)) _ ⟨0, none, 0, none, 0, rfl, E.keeps [(0, _), (1, _), (4, _), (5, _), (44, _), (45, _), (46, _)] ⟨rfl, rfl, rfl, rfl, rfl, rfl, rfl, trivial⟩, S, Nat.zero_le _⟩ ?_
    clear E a S
    rintro n_ a w ⟨i, pA, pc_, pB, pd, rfl, E, S, hi⟩
    refine wp_seq ?_
    refine region_plain (n := 1) [(0, .p)] rfl rfl ?_
    by_cases hlt : i < l.length
    · skip
      obtain ⟨bA, oA, rfl, hA⟩ := H1.place (by omega)
      refine Run.lss rfl E rfl rfl rfl rfl (decide_eq_true (by omega)) ?_; clear E a; intro a E
      refine Run.nil ?_
      refine then_n ?_
      refine wp_seq ?_
      refine cond_T E rfl ?_
      refine wp_skip ?_
      refine then_n ?_
      refine wp_seq ?_
      refine wp_block ?_
      refine wp_seq ?_
      refine region_plain (n := 4) [(0, .p), (1, .l), (2, .e), (3, .l)] rfl rfl ?_
      refine Run.indexAddr rfl E rfl rfl rfl rfl Try.underlying38 sz43 (by omega) (ix_at' (m' := i) (by omega)) ?_; clear E a; intro a E
      refine Run.loadN (cs := [.bool ((l[i]).bar), .int .i64 ((l[i]).pc), .int .i64 ((l[i]).pos), .int .i64 ((l[i]).mark), .int .i64 ((l[i]).org), .int .i64 ((l[i]).val)]) rfl rfl E S rfl rfl rfl ag43 rfl (fun _ s => rdAtL hA s _ _ (ents_get (List.getElem?_eq_getElem hlt))) ?_; clear E a; intro a E
      refine Run.alloc rfl rfl E S rfl rfl z43 rfl ?_; clear E a S; intro b2 w a E S B_; clear B_
      refine Run.store (news := [.bool ((l[i]).bar), .int .i64 ((l[i]).pc), .int .i64 ((l[i]).pos), .int .i64 ((l[i]).mark), .int .i64 ((l[i]).org), .int .i64 ((l[i]).val)]) (cs' := [_, _, _, _, _, _]) (hp' := [_, _, _, _]) 0 rfl E S rfl rfl rfl rfl rfl sz43 rfl rfl rfl rfl ?_; clear S; intro w S
      refine Run.nil ?_
      refine then_n ?_
      refine region_plain (n := 3) [(0, .p), (1, .l), (2, .l)] rfl rfl ?_
      by_cases hm : i < m
      · skip
        have em : min i m = i := by omega
        rw [em] at S
        refine Run.move rfl E rfl rfl rfl ?_; clear E a; intro a E
        refine Run.loadN (cs := [.bool ((l[i]).bar), .int .i64 ((l[i]).pc), .int .i64 ((l[i]).pos), .int .i64 ((l[i]).mark), .int .i64 ((l[i]).org), .int .i64 ((l[i]).val)]) rfl rfl E S rfl rfl rfl ag43 rfl (fun _ s => objAll s 0 rfl) ?_; clear E a; intro a E
        replace S : St _ _ _ [.obj _ _ [_, _, _, _], _, _, .obj _ _ [_, _, _, _, _, _]] := S.sel [1, 2, 3, 0] _ rfl rfl
        refine Run.call (args := [.pointer (some ⟨g1, 0, none⟩), .agg #[.bool ((l[i]).bar), .int .i64 ((l[i]).pc), .int .i64 ((l[i]).pos), .int .i64 ((l[i]).mark), .int .i64 ((l[i]).org), .int .i64 ((l[i]).val)]]) rfl rfl E rfl rfl Try.func30 nm30 rfl rfl (push_any (e := l[i]) (mx := ((i + 1 : Nat) : Int)) (l' := l.take (i + 1)) (St.ownL (A := (Pile g1 pA pc_ pB pd limit (i : Int) (l.take i) (barIdx (l.take i)))) (R := [_]) S) (by simp; omega) (by omega) (mx_step (by simp; omega)) (take_snoc hlt)) ?_; rintro e_ w ⟨rfl, A3, c4, B5, d6, S_⟩; refine ⟨_, rfl, (fun h => by cases h), ?_⟩; clear E a; intro a E
        replace S : St _ _ _ [.obj _ _ [_, _, _, _], _, _, .obj _ _ [_, _, _, _, _, _]] := St.call (A := (Pile g1 pA pc_ pB pd limit (i : Int) (l.take i) (barIdx (l.take i)))) (R := [_]) S S_; clear S_
        refine Run.nil ?_
        refine blk_n ?_
        refine then_n ?_
        refine region_plain (n := 2) [(0, .p), (1, .p)] rfl rfl ?_
        refine Run.add rfl E rfl rfl rfl rfl (i64_ok (by omega)) ?_; clear E a; intro a E
        refine Run.move rfl E rfl rfl rfl ?_; clear E a; intro a E
        refine Run.nil ?_
        refine then_n ?_
        replace E := E.setv 46 rfl (show Value.int .i64 ((i : Int) + 1) = .int .i64 ((i + 1 : Nat) : Int) from rfl)
        have em : i + 1 = min (i + 1) m := by omega
        replace S : St _ _ _ (Pile g1 A3 c4 B5 d6 limit ((i + 1 : Nat) : Int) (l.take (i + 1)) (barIdx (l.take (i + 1))) ++ [_]) := S
        rw [em] at S
        replace S : St _ _ _ [.obj _ _ [_, _, _, _], _, _, .obj _ _ [_, _, _, _, _, _]] := S
        have S : St _ _ _ [_, _, _, _] := S.sel [3, 0, 1, 2] _ rfl rfl
        have S := S.drop1
        exact ⟨_, (by omega), (i + 1), A3, c4, B5, d6, rfl, E.keeps [(0, _), (1, _), (4, _), (5, _), (44, _), (45, _), (46, _)] ⟨rfl, rfl, rfl, rfl, rfl, rfl, rfl, trivial⟩, S, hlt⟩
      · skip
        have em0 : min i m = m := by omega
        skip
        refine Run.move rfl E rfl rfl rfl ?_; clear E a; intro a E
        refine Run.loadN (cs := [.bool ((l[i]).bar), .int .i64 ((l[i]).pc), .int .i64 ((l[i]).pos), .int .i64 ((l[i]).mark), .int .i64 ((l[i]).org), .int .i64 ((l[i]).val)]) rfl rfl E S rfl rfl rfl ag43 rfl (fun _ s => objAll s 0 rfl) ?_; clear E a; intro a E
        replace S : St _ _ _ [.obj _ _ [_, _, _, _], _, _, .obj _ _ [_, _, _, _, _, _]] := S.sel [1, 2, 3, 0] _ rfl rfl
        refine Run.call (args := [.pointer (some ⟨g1, 0, none⟩), .agg #[.bool ((l[i]).bar), .int .i64 ((l[i]).pc), .int .i64 ((l[i]).pos), .int .i64 ((l[i]).mark), .int .i64 ((l[i]).org), .int .i64 ((l[i]).val)]]) rfl rfl E rfl rfl Try.func30 nm30 rfl rfl (push_full (e := l[i]) (St.ownL (A := (Pile g1 pA pc_ pB pd limit ((min i m : Nat) : Int) (l.take (min i m)) (barIdx (l.take (min i m))))) (R := [_]) S) (by rw [List.length_take, em0]; omega)) ?_; rintro e_ w ⟨rfl, S_⟩; refine ⟨_, rfl, (fun h => by cases h), ?_⟩; clear E a; intro a E
        replace S : St _ _ _ [.obj _ _ [_, _, _, _], _, _, .obj _ _ [_, _, _, _, _, _]] := St.call (A := (Pile g1 pA pc_ pB pd limit ((min i m : Nat) : Int) (l.take (min i m)) (barIdx (l.take (min i m))))) (R := [_]) S S_; clear S_
        refine Run.nil ?_
        refine blk_n ?_
        refine then_n ?_
        refine region_plain (n := 2) [(0, .p), (1, .p)] rfl rfl ?_
        refine Run.add rfl E rfl rfl rfl rfl (i64_ok (by omega)) ?_; clear E a; intro a E
        refine Run.move rfl E rfl rfl rfl ?_; clear E a; intro a E
        refine Run.nil ?_
        refine then_n ?_
        replace E := E.setv 46 rfl (show Value.int .i64 ((i : Int) + 1) = .int .i64 ((i + 1 : Nat) : Int) from rfl)
        have em : min i m = min (i + 1) m := by omega
        rw [em] at S
        have S : St _ _ _ [_, _, _, _] := S.sel [3, 0, 1, 2] _ rfl rfl
        have S := S.drop1
        exact ⟨_, (by omega), (i + 1), pA, pc_, pB, pd, rfl, E.keeps [(0, _), (1, _), (4, _), (5, _), (44, _), (45, _), (46, _)] ⟨rfl, rfl, rfl, rfl, rfl, rfl, rfl, trivial⟩, S, hlt⟩
    · skip
      have e0 : min i m = m := by omega
      rw [e0] at S
      refine Run.lss rfl E rfl rfl rfl rfl (decide_eq_false (by omega)) ?_; clear E a; intro a E
      refine Run.nil ?_
      refine then_n ?_
      refine wp_seq ?_
      refine cond_F E rfl ?_
      refine wp_exit ?_
      refine then_x ?_
      refine then_x ?_
      refine blk_x ?_
      refine then_n ?_
      refine wp_seq ?_
      refine region_plain (n := 5) [(0, .p), (1, .p), (2, .p), (3, .p), (4, .p)] rfl rfl ?_
      refine Run.move rfl E rfl rfl rfl ?_; clear E a; intro a E
      refine Run.len rfl E rfl rfl rfl Try.underlying38 ?_; clear E a; intro a E
      refine Run.move rfl E rfl rfl rfl ?_; clear E a; intro a E
      refine Run.min rfl E rfl rfl rfl rfl (q := (m : Int)) (by rw [hm]; split <;> omega) ?_; clear E a; intro a E
      refine Run.assign rfl E rfl rfl rfl ?_; clear E a; intro a E
      refine Run.nil ?_
      refine then_n ?_
      refine wp_seq ?_
      refine wp_seq ?_
      refine region_plain (n := 2) [(0, .p), (1, .p)] rfl rfl ?_
      refine Run.move rfl E rfl rfl rfl ?_; clear E a; intro a E
      refine Run.move rfl E rfl rfl rfl ?_; clear E a; intro a E
      refine Run.nil ?_
      refine then_n ?_
      refine wp_block ?_
      refine wp_loop_ghost (fun n a w => ∃ i : Nat, m - i = n ∧ Env 94 [(1, .slice A l.length c), (5, .pointer (some ⟨g1, 0, none⟩)), (9, .int .i64 (m : Int)), (58, .int .i64 (m : Int)), (59, .int .i64 (i : Int))] a ∧ St _ _ w [.obj g1 130 [.int .i64 limit, .int .i64 (m : Int), .slice pA ((l.take (m - i)).length) pc_, .slice pB ((barIdx (l.take (m - i))).length) pd], .row (.slice pA ((l.take (m - i)).length) pc_) 43 6 ((l.take (m - i)).length) (ents (l.take (m - i))), .row (.slice pB ((barIdx (l.take (m - i))).length) pd) 3 1 ((barIdx (l.take (m - i))).length) (ints (barIdx (l.take (m - i))))] ∧ (i ≤ m)) _ ⟨0, rfl, E.keeps [(1, _), (5, _), (9, _), (58, _), (59, _)] ⟨rfl, rfl, rfl, rfl, rfl, trivial⟩, S, Nat.zero_le _⟩ ?_
      clear E a S
      rintro n_ a w ⟨i, rfl, E, S, hi⟩
      refine wp_seq ?_
      refine region_plain (n := 1) [(0, .p)] rfl rfl ?_
      by_cases hlt : i < m
      · skip
        obtain ⟨bA, oA, rfl, hA⟩ := H1.place (by omega)
        refine Run.lss rfl E rfl rfl rfl rfl (decide_eq_true (by omega)) ?_; clear E a; intro a E
        refine Run.nil ?_
        refine then_n ?_
        refine wp_seq ?_
        refine cond_T E rfl ?_
        refine wp_skip ?_
        refine then_n ?_
        refine wp_seq ?_
        refine wp_block ?_
        refine wp_seq ?_
        refine region_plain (n := 2) [(0, .p), (1, .p)] rfl rfl ?_
        refine Run.move rfl E rfl rfl rfl ?_; clear E a; intro a E
        refine Run.assign rfl E rfl rfl rfl ?_; clear E a; intro a E
        refine Run.nil ?_
        refine then_n ?_
        refine wp_seq ?_
        refine region_plain (n := 8) [(0, .p), (1, .l), (2, .p), (3, .p), (4, .p), (5, .e), (6, .l), (7, .p)] rfl rfl ?_
        refine Run.move rfl E rfl rfl rfl ?_; clear E a; intro a E
        refine Run.call (args := [.pointer (some ⟨g1, 0, none⟩)]) rfl rfl E rfl rfl Try.func45 nm45 rfl rfl (pop_take_any (St.ownL (A := (Pile g1 pA pc_ pB pd limit (m : Int) (l.take (m - i)) (barIdx (l.take (m - i))))) (R := []) S) hlt hml (by omega)) ?_; rintro e_ w ⟨rfl, S_⟩; refine ⟨_, rfl, (fun h => by cases h), ?_⟩; clear E a; intro a E
        replace S : St _ _ _ [.obj _ _ [_, _, _, _], _, _] := St.call (A := (Pile g1 pA pc_ pB pd limit (m : Int) (l.take (m - i)) (barIdx (l.take (m - i))))) (R := []) S S_; clear S_
        refine Run.move rfl E rfl rfl rfl ?_; clear E a; intro a E
        refine Run.extract rfl E rfl rfl rfl rfl ?_; clear E a; intro a E
        refine Run.extract rfl E rfl rfl rfl rfl ?_; clear E a; intro a E
        refine Run.alloc rfl rfl E S rfl rfl z43 rfl ?_; clear E a S; intro b7 w a E S B_; clear B_
        refine Run.store (news := [.bool ((l[m - 1 - i]).bar), .int .i64 ((l[m - 1 - i]).pc), .int .i64 ((l[m - 1 - i]).pos), .int .i64 ((l[m - 1 - i]).mark), .int .i64 ((l[m - 1 - i]).org), .int .i64 ((l[m - 1 - i]).val)]) (cs' := [_, _, _, _, _, _]) (hp' := [_, _, _, _]) 0 rfl E S rfl rfl rfl rfl rfl sz43 rfl rfl rfl rfl ?_; clear S; intro w S
        refine Run.assign rfl E rfl rfl rfl ?_; clear E a; intro a E
        refine Run.nil ?_
        refine then_n ?_
        refine wp_seq ?_
        refine region_drawS (n := 13) [(0, .p), (1, .p), (2, .p), (4, .p), (5, .p), (6, .p), (7, .p), (8, .p), (9, .p), (3, .t), (10, .t), (11, .p), (12, .p)] [0, 1, 3, 7, 7, 7, 39, 7, 231, 503, 1015, 2047, 4095] S mixed rfl rfl (by kernel_rfl) (fun _ _ _ _ _ h => h) ?_; clear S; intro w S B_; clear B_
        refine Run.move rfl E rfl rfl rfl ?_; clear E a; intro a E
        refine Run.not rfl E rfl rfl rfl rfl ?_; clear E a; intro a E
        refine Run.move rfl E rfl rfl rfl ?_; clear E a; intro a E
        refine Run.move rfl E rfl rfl rfl ?_; clear E a; intro a E
        refine Run.move rfl E rfl rfl rfl ?_; clear E a; intro a E
        refine Run.sub rfl E rfl rfl rfl rfl (i64_ok (by omega)) ?_; clear E a; intro a E
        refine Run.move rfl E rfl rfl rfl ?_; clear E a; intro a E
        refine Run.sub rfl E rfl rfl rfl rfl (i64_ok (by omega)) ?_; clear E a; intro a E
        refine Run.indexAddr rfl E rfl rfl rfl rfl Try.underlying38 sz43 (by omega) (ix_at' (m' := (m - 1 - i)) (by omega)) ?_; clear E a; intro a E
        refine Run.loadN (cs := [.bool ((l[m - 1 - i]).bar), .int .i64 ((l[m - 1 - i]).pc), .int .i64 ((l[m - 1 - i]).pos), .int .i64 ((l[m - 1 - i]).mark), .int .i64 ((l[m - 1 - i]).org), .int .i64 ((l[m - 1 - i]).val)]) rfl rfl E S rfl rfl rfl ag43 rfl (fun _ s => objAll s 0 rfl) ?_; clear E a; intro a E
        refine Run.loadN (cs := [.bool ((l[m - 1 - i]).bar), .int .i64 ((l[m - 1 - i]).pc), .int .i64 ((l[m - 1 - i]).pos), .int .i64 ((l[m - 1 - i]).mark), .int .i64 ((l[m - 1 - i]).org), .int .i64 ((l[m - 1 - i]).val)]) rfl rfl E S rfl rfl rfl ag43 rfl (fun _ s => rdAtL hA s _ _ (ents_get (List.getElem?_eq_getElem (by omega)))) ?_; clear E a; intro a E
        refine Run.bin (v := .bool false) rfl E rfl rfl rfl rfl (fun w => (run_ne43 _ _ (l[m - 1 - i]) (l[m - 1 - i]) w).trans (by rw [decide_eq_false (fun h => h (rfl))])) ?_; clear E a; intro a E
        refine Run.pickF rfl E rfl rfl rfl rfl ?_; clear E a; intro a E
        refine Run.nil ?_
        refine then_n ?_
        refine cond_F E rfl ?_
        refine wp_skip ?_
        refine blk_n ?_
        refine then_n ?_
        refine region_plain (n := 2) [(0, .p), (1, .p)] rfl rfl ?_
        refine Run.add rfl E rfl rfl rfl rfl (i64_ok (by omega)) ?_; clear E a; intro a E
        refine Run.move rfl E rfl rfl rfl ?_; clear E a; intro a E
        refine Run.nil ?_
        refine then_n ?_
        replace E := E.setv 59 rfl (show Value.int .i64 ((i : Int) + 1) = .int .i64 ((i + 1 : Nat) : Int) from rfl)
        have S : St _ _ _ [_, _, _, _] := S.sel [0, 1, 2, 3] _ rfl rfl
        have S := S.drop1
        exact ⟨_, (by omega), (i + 1), rfl, E.keeps [(1, _), (5, _), (9, _), (58, _), (59, _)] ⟨rfl, rfl, rfl, rfl, rfl, trivial⟩, S, hlt⟩
      · skip
        obtain rfl : i = m := by omega
        have e0 : i - i = 0 := by omega
        rw [e0] at S
        replace S : St _ _ _ [.obj _ _ [_, _, _, _], _, _] := S
        refine Run.lss rfl E rfl rfl rfl rfl (decide_eq_false (by omega)) ?_; clear E a; intro a E
        refine Run.nil ?_
        refine then_n ?_
        refine wp_seq ?_
        refine cond_F E rfl ?_
        refine wp_exit ?_
        refine then_x ?_
        refine then_x ?_
        refine blk_x ?_
        refine then_n ?_
        refine wp_seq ?_
        refine region_plain (n := 8) [(0, .p), (1, .l), (2, .p), (3, .p), (4, .p), (5, .e), (6, .l), (7, .p)] rfl rfl ?_
        refine Run.move rfl E rfl rfl rfl ?_; clear E a; intro a E
        refine Run.call (args := [.pointer (some ⟨g1, 0, none⟩)]) rfl rfl E rfl rfl Try.func45 nm45 rfl rfl (pop_none (St.ownL (A := (Pile g1 pA pc_ pB pd limit (i : Int) ([]) ([]))) (R := []) S) rfl) ?_; rintro e_ w ⟨rfl, S_⟩; refine ⟨_, rfl, (fun h => by cases h), ?_⟩; clear E a; intro a E
        replace S : St _ _ _ [.obj _ _ [_, _, _, _], _, _] := St.call (A := (Pile g1 pA pc_ pB pd limit (i : Int) ([]) ([]))) (R := []) S S_; clear S_
        refine Run.move rfl E rfl rfl rfl ?_; clear E a; intro a E
        refine Run.extract rfl E rfl rfl rfl rfl ?_; clear E a; intro a E
        refine Run.extract rfl E rfl rfl rfl rfl ?_; clear E a; intro a E
        refine Run.alloc rfl rfl E S rfl rfl z43 rfl ?_; clear E a S; intro b8 w a E S B_; clear B_
        refine Run.store (news := [.bool false, .int .i64 0, .int .i64 0, .int .i64 0, .int .i64 0, .int .i64 0]) (cs' := [_, _, _, _, _, _]) (hp' := [_, _, _, _]) 0 rfl E S rfl rfl rfl rfl rfl sz43 rfl rfl rfl rfl ?_; clear S; intro w S
        refine Run.assign rfl E rfl rfl rfl ?_; clear E a; intro a E
        refine Run.nil ?_
        refine then_n ?_
        refine wp_seq ?_
        refine region_plain (n := 9) [(0, .p), (1, .p), (2, .p), (3, .p), (4, .e), (5, .p), (6, .p), (7, .p), (8, .p)] rfl rfl ?_
        refine Run.move rfl E rfl rfl rfl ?_; clear E a; intro a E
        refine Run.not rfl E rfl rfl rfl rfl ?_; clear E a; intro a E
        refine Run.move rfl E rfl rfl rfl ?_; clear E a; intro a E
        refine Run.move rfl E rfl rfl rfl ?_; clear E a; intro a E
        refine Run.call (args := [.pointer (some ⟨g1, 0, none⟩)]) rfl rfl E rfl rfl Try.func46 nm46 rfl rfl (pile_most (St.holdsL (A := (Pile g1 pA pc_ pB pd limit (i : Int) ([]) ([]))) (R := [_]) (S.sel [1, 2, 3, 0] ((Pile g1 pA pc_ pB pd limit (i : Int) ([]) ([])) ++ [_]) rfl rfl))) ?_; rintro e_ w ⟨rfl, B_⟩; refine ⟨_, rfl, fun _ => B_, ?_⟩; clear E a; replace S := S.bel B_; intro a E
        clear B_
        refine Run.move rfl E rfl rfl rfl ?_; clear E a; intro a E
        refine Run.eqi rfl E rfl rfl rfl rfl (decide_eq_true (rfl)) ?_; clear E a; intro a E
        refine Run.pickT rfl E rfl rfl rfl rfl ?_; clear E a; intro a E
        refine Run.assign rfl E rfl rfl rfl ?_; clear E a; intro a E
        refine Run.nil ?_
        refine then_n ?_
        refine wp_ret ?_
        exact ret1 E Try.results7 rfl ⟨rfl, S.belT⟩

theorem pileTakes_walk {A : Option Addr} {c : Nat} {l : List Ent} {limit : Int} (H1 : Rd w0 A l.length 6 (ents l)) (hml0 : l.length ≤ 140737488355328) : Calls Try.prog 7 [.int .i64 limit, .slice A l.length c].toArray w0 (fun r w' => r = .returned (.bool true) ∧ Bel w0 w') := by
  rcases Int.lt_or_le limit 0 with h | h0
  · exact takes_low H1 hml0 h
  · rcases Int.lt_or_le 65536 limit with h | h1
    · exact takes_high H1 hml0 h
    · exact takes_mid H1 hml0 h0 h1

/-- A step of a play. -/
structure POp where
  (kind : Int) (e : Ent)
def POp.cells (o : POp) : List Value := .int .i64 o.kind :: o.e.cells
def pops (l : List POp) : List Value := l.flatMap POp.cells
theorem pops_get {l : List POp} {i : Nat} {e : POp} (h : l[i]? = some e) : ∀ j v, e.cells[j]? = some v → (pops l)[i * 7 + j]? = some v := by
  obtain ⟨hlt, he⟩ := List.getElem?_eq_some_iff.1 h
  subst he
  exact flat_at _ 7 (fun _ => rfl) l i hlt
theorem cutL_len (l : List Ent) : (cutL l).length ≤ l.length := by
  unfold cutL; split
  · simp; omega
  · exact Nat.le_refl _

theorem plays_low {A : Option Addr} {c : Nat} {ops : List POp} {limit : Int} (H1 : Rd w0 A ops.length 7 (pops ops)) (h : limit < 0) : Calls Try.prog 8 [.int .i64 limit, .slice A ops.length c].toArray w0 (fun r w' => r = .returned (.bool true) ∧ Bel w0 w') := by
  have S := St.nil [] w0
  refine fn_start Try.func8 rfl 209 rfl rfl [(0, _), (1, _)] ⟨rfl, rfl, trivial⟩ ?_; intro a E
  refine wp_seq ?_
  refine region_plain (n := 1) [(0, .p)] rfl rfl ?_
  refine Run.assign rfl E rfl rfl rfl ?_; clear E a; intro a E
  refine Run.nil ?_
  refine then_n ?_
  refine wp_seq ?_
  refine wp_seq ?_
  refine region_plain (n := 2) [(0, .e), (1, .p)] rfl rfl ?_
  refine Run.call (args := []) rfl rfl E rfl rfl Try.func28 nm28 rfl rfl (anchor16) ?_; rintro e_ w ⟨rfl, B_⟩; refine ⟨_, rfl, fun _ => B_, ?_⟩; clear E a; replace S := S.bel B_; intro a E
  clear B_
  refine Run.not rfl E rfl rfl rfl rfl ?_; clear E a; intro a E
  refine Run.nil ?_
  refine then_n ?_
  refine cond_F E rfl ?_
  refine wp_skip ?_
  refine then_n ?_
  refine wp_seq ?_
  refine region_plain (n := 7) [(0, .p), (1, .e), (2, .p), (3, .p), (4, .p), (5, .p), (6, .p)] rfl rfl ?_
  refine Run.move rfl E rfl rfl rfl ?_; clear E a; intro a E
  refine Run.call (args := [.int .i64 limit]) rfl rfl E rfl rfl Try.func29 nm29 rfl rfl (pile_new_low h) ?_; rintro e_ w ⟨rfl, B_⟩; refine ⟨_, rfl, fun _ => B_, ?_⟩; clear E a; replace S := S.bel B_; intro a E
  clear B_
  refine Run.move rfl E rfl rfl rfl ?_; clear E a; intro a E
  refine Run.extract rfl E rfl rfl rfl rfl ?_; clear E a; intro a E
  refine Run.extract rfl E rfl rfl rfl rfl ?_; clear E a; intro a E
  refine Run.assign rfl E rfl rfl rfl ?_; clear E a; intro a E
  refine Run.assign rfl E rfl rfl rfl ?_; clear E a; intro a E
  refine Run.nil ?_
  refine then_n ?_
  refine wp_seq ?_
  refine wp_seq ?_
  refine region_plain (n := 6) [(0, .p), (1, .p), (2, .p), (3, .p), (4, .p), (5, .p)] rfl rfl ?_
  refine Run.move rfl E rfl rfl rfl ?_; clear E a; intro a E
  refine Run.lss rfl E rfl rfl rfl rfl (decide_eq_true (h)) ?_; clear E a; intro a E
  refine Run.move rfl E rfl rfl rfl ?_; clear E a; intro a E
  refine Run.off rfl E rfl rfl ?_; clear E a; intro a E
  refine Run.off rfl E rfl rfl ?_; clear E a; intro a E
  refine Run.pickT rfl E rfl rfl rfl rfl ?_; clear E a; intro a E
  refine Run.nil ?_
  refine then_n ?_
  refine cond_T E rfl ?_
  refine wp_seq ?_
  refine region_plain (n := 7) [(0, .p), (1, .p), (2, .p), (3, .p), (4, .p), (5, .p), (6, .p)] rfl rfl ?_
  refine Run.move rfl E rfl rfl rfl ?_; clear E a; intro a E
  refine Run.eqi rfl E rfl rfl rfl rfl (b := true) (by decide) ?_; clear E a; intro a E
  refine Run.move rfl E rfl rfl rfl ?_; clear E a; intro a E
  refine Run.move rfl E rfl rfl rfl ?_; clear E a; intro a E
  refine Run.bin (v := .bool true) rfl E rfl rfl rfl rfl (fun _ => by kernel_rfl) ?_; clear E a; intro a E
  refine Run.pickT rfl E rfl rfl rfl rfl ?_; clear E a; intro a E
  refine Run.assign rfl E rfl rfl rfl ?_; clear E a; intro a E
  refine Run.nil ?_
  refine then_n ?_
  refine wp_ret ?_
  refine then_r ?_
  exact ret1 E Try.results8 rfl ⟨rfl, S.belT⟩

theorem plays_high {A : Option Addr} {c : Nat} {ops : List POp} {limit : Int} (H1 : Rd w0 A ops.length 7 (pops ops)) (h : 65536 < limit) : Calls Try.prog 8 [.int .i64 limit, .slice A ops.length c].toArray w0 (fun r w' => r = .returned (.bool true) ∧ Bel w0 w') := by
  have S := St.nil [] w0
  refine fn_start Try.func8 rfl 209 rfl rfl [(0, _), (1, _)] ⟨rfl, rfl, trivial⟩ ?_; intro a E
  refine wp_seq ?_
  refine region_plain (n := 1) [(0, .p)] rfl rfl ?_
  refine Run.assign rfl E rfl rfl rfl ?_; clear E a; intro a E
  refine Run.nil ?_
  refine then_n ?_
  refine wp_seq ?_
  refine wp_seq ?_
  refine region_plain (n := 2) [(0, .e), (1, .p)] rfl rfl ?_
  refine Run.call (args := []) rfl rfl E rfl rfl Try.func28 nm28 rfl rfl (anchor16) ?_; rintro e_ w ⟨rfl, B_⟩; refine ⟨_, rfl, fun _ => B_, ?_⟩; clear E a; replace S := S.bel B_; intro a E
  clear B_
  refine Run.not rfl E rfl rfl rfl rfl ?_; clear E a; intro a E
  refine Run.nil ?_
  refine then_n ?_
  refine cond_F E rfl ?_
  refine wp_skip ?_
  refine then_n ?_
  refine wp_seq ?_
  refine region_plain (n := 7) [(0, .p), (1, .e), (2, .p), (3, .p), (4, .p), (5, .p), (6, .p)] rfl rfl ?_
  refine Run.move rfl E rfl rfl rfl ?_; clear E a; intro a E
  refine Run.call (args := [.int .i64 limit]) rfl rfl E rfl rfl Try.func29 nm29 rfl rfl (pile_new_high (by omega) h) ?_; rintro e_ w ⟨rfl, B_⟩; refine ⟨_, rfl, fun _ => B_, ?_⟩; clear E a; replace S := S.bel B_; intro a E
  clear B_
  refine Run.move rfl E rfl rfl rfl ?_; clear E a; intro a E
  refine Run.extract rfl E rfl rfl rfl rfl ?_; clear E a; intro a E
  refine Run.extract rfl E rfl rfl rfl rfl ?_; clear E a; intro a E
  refine Run.assign rfl E rfl rfl rfl ?_; clear E a; intro a E
  refine Run.assign rfl E rfl rfl rfl ?_; clear E a; intro a E
  refine Run.nil ?_
  refine then_n ?_
  refine wp_seq ?_
  refine wp_seq ?_
  refine region_plain (n := 6) [(0, .p), (1, .p), (2, .p), (3, .p), (4, .p), (5, .p)] rfl rfl ?_
  refine Run.move rfl E rfl rfl rfl ?_; clear E a; intro a E
  refine Run.lss rfl E rfl rfl rfl rfl (decide_eq_false (by omega)) ?_; clear E a; intro a E
  refine Run.move rfl E rfl rfl rfl ?_; clear E a; intro a E
  refine Run.move rfl E rfl rfl rfl ?_; clear E a; intro a E
  refine Run.gtr rfl E rfl rfl rfl rfl (decide_eq_true (h)) ?_; clear E a; intro a E
  refine Run.pickF rfl E rfl rfl rfl rfl ?_; clear E a; intro a E
  refine Run.nil ?_
  refine then_n ?_
  refine cond_T E rfl ?_
  refine wp_seq ?_
  refine region_plain (n := 7) [(0, .p), (1, .p), (2, .p), (3, .p), (4, .p), (5, .p), (6, .p)] rfl rfl ?_
  refine Run.move rfl E rfl rfl rfl ?_; clear E a; intro a E
  refine Run.eqi rfl E rfl rfl rfl rfl (b := true) (by decide) ?_; clear E a; intro a E
  refine Run.move rfl E rfl rfl rfl ?_; clear E a; intro a E
  refine Run.move rfl E rfl rfl rfl ?_; clear E a; intro a E
  refine Run.bin (v := .bool true) rfl E rfl rfl rfl rfl (fun _ => by kernel_rfl) ?_; clear E a; intro a E
  refine Run.pickT rfl E rfl rfl rfl rfl ?_; clear E a; intro a E
  refine Run.assign rfl E rfl rfl rfl ?_; clear E a; intro a E
  refine Run.nil ?_
  refine then_n ?_
  refine wp_ret ?_
  refine then_r ?_
  exact ret1 E Try.results8 rfl ⟨rfl, S.belT⟩

theorem plays_mid {A : Option Addr} {c : Nat} {ops : List POp} {limit : Int} (H1 : Rd w0 A ops.length 7 (pops ops)) (h0 : 0 ≤ limit) (h1 : limit ≤ 65536) : Calls Try.prog 8 [.int .i64 limit, .slice A ops.length c].toArray w0 (fun r w' => r = .returned (.bool true) ∧ Bel w0 w') := by
  have S := St.nil [] w0
  refine fn_start Try.func8 rfl 209 rfl rfl [(0, _), (1, _)] ⟨rfl, rfl, trivial⟩ ?_; intro a E
  refine wp_seq ?_
  refine region_plain (n := 1) [(0, .p)] rfl rfl ?_
  refine Run.assign rfl E rfl rfl rfl ?_; clear E a; intro a E
  refine Run.nil ?_
  refine then_n ?_
  refine wp_seq ?_
  refine wp_seq ?_
  refine region_plain (n := 2) [(0, .e), (1, .p)] rfl rfl ?_
  refine Run.call (args := []) rfl rfl E rfl rfl Try.func28 nm28 rfl rfl (anchor16) ?_; rintro e_ w ⟨rfl, B_⟩; refine ⟨_, rfl, fun _ => B_, ?_⟩; clear E a; replace S := S.bel B_; intro a E
  clear B_
  refine Run.not rfl E rfl rfl rfl rfl ?_; clear E a; intro a E
  refine Run.nil ?_
  refine then_n ?_
  refine cond_F E rfl ?_
  refine wp_skip ?_
  refine then_n ?_
  refine wp_seq ?_
  refine region_plain (n := 7) [(0, .p), (1, .e), (2, .p), (3, .p), (4, .p), (5, .p), (6, .p)] rfl rfl ?_
  refine Run.move rfl E rfl rfl rfl ?_; clear E a; intro a E
  refine Run.call (args := [.int .i64 limit]) rfl rfl E rfl rfl Try.func29 nm29 rfl rfl (pile_new h0 h1) ?_; rintro e_ w ⟨g1, rfl, S_⟩; refine ⟨_, rfl, (fun _ => S_.belT), ?_⟩; clear E a; intro a E
  replace S : St _ _ _ [.obj _ _ [_, _, _, _], _, _] := St.call (A := []) (R := []) S S_; clear S_
  refine Run.move rfl E rfl rfl rfl ?_; clear E a; intro a E
  refine Run.extract rfl E rfl rfl rfl rfl ?_; clear E a; intro a E
  refine Run.extract rfl E rfl rfl rfl rfl ?_; clear E a; intro a E
  refine Run.assign rfl E rfl rfl rfl ?_; clear E a; intro a E
  refine Run.assign rfl E rfl rfl rfl ?_; clear E a; intro a E
  refine Run.nil ?_
  refine then_n ?_
  refine wp_seq ?_
  refine wp_seq ?_
  refine region_plain (n := 6) [(0, .p), (1, .p), (2, .p), (3, .p), (4, .p), (5, .p)] rfl rfl ?_
  refine Run.move rfl E rfl rfl rfl ?_; clear E a; intro a E
  refine Run.lss rfl E rfl rfl rfl rfl (decide_eq_false (by omega)) ?_; clear E a; intro a E
  refine Run.move rfl E rfl rfl rfl ?_; clear E a; intro a E
  refine Run.move rfl E rfl rfl rfl ?_; clear E a; intro a E
  refine Run.gtr rfl E rfl rfl rfl rfl (decide_eq_false (by omega)) ?_; clear E a; intro a E
  refine Run.pickF rfl E rfl rfl rfl rfl ?_; clear E a; intro a E
  refine Run.nil ?_
  refine then_n ?_
  refine cond_F E rfl ?_
  refine wp_skip ?_
  refine then_n ?_
  refine wp_seq ?_
  refine wp_seq ?_
  refine region_plain (n := 6) [(0, .p), (1, .p), (2, .p), (3, .p), (4, .p), (5, .p)] rfl rfl ?_
  refine Run.move rfl E rfl rfl rfl ?_; clear E a; intro a E
  refine Run.nei rfl E rfl rfl rfl rfl (b := false) (by decide) ?_; clear E a; intro a E
  refine Run.move rfl E rfl rfl rfl ?_; clear E a; intro a E
  refine Run.move rfl E rfl rfl rfl ?_; clear E a; intro a E
  refine Run.bin (v := .bool false) rfl E rfl rfl rfl rfl (fun _ => by kernel_rfl) ?_; clear E a; intro a E
  refine Run.pickF rfl E rfl rfl rfl rfl ?_; clear E a; intro a E
  refine Run.nil ?_
  refine then_n ?_
  refine cond_F E rfl ?_
  refine wp_skip ?_
  refine then_n ?_
  refine wp_seq ?_
  refine wp_seq ?_
  refine region_plain (n := 3) [(0, .p), (1, .p), (2, .p)] rfl rfl ?_
  refine Run.move rfl E rfl rfl rfl ?_; clear E a; intro a E
  refine Run.len rfl E rfl rfl rfl Try.underlying61 ?_; clear E a; intro a E
  by_cases hbig : 80 < (ops.length : Int)
  · skip
    refine Run.gtr rfl E rfl rfl rfl rfl (decide_eq_true (by omega)) ?_; clear E a; intro a E
    refine Run.nil ?_
    refine then_n ?_
    refine cond_T E rfl ?_
    refine wp_seq ?_
    refine region_plain (n := 1) [(0, .p)] rfl rfl ?_
    refine Run.assign rfl E rfl rfl rfl ?_; clear E a; intro a E
    refine Run.nil ?_
    refine then_n ?_
    refine wp_ret ?_
    refine then_r ?_
    exact ret1 E Try.results8 rfl ⟨rfl, S.belT⟩
  · skip
    refine Run.gtr rfl E rfl rfl rfl rfl (decide_eq_false (by omega)) ?_; clear E a; intro a E
    refine Run.nil ?_
    refine then_n ?_
    refine cond_F E rfl ?_
    refine wp_skip ?_
    refine then_n ?_
    refine wp_seq ?_
    refine region_plain (n := 1) [(0, .p)] rfl rfl ?_
    refine Run.assign rfl E rfl rfl rfl ?_; clear E a; intro a E
    refine Run.nil ?_
    refine then_n ?_
    refine wp_seq ?_
    refine region_plain (n := 1) [(0, .p)] rfl rfl ?_
    refine Run.assign rfl E rfl rfl rfl ?_; clear E a; intro a E
    refine Run.nil ?_
    refine then_n ?_
    refine wp_seq ?_
    refine wp_seq ?_
    refine region_plain (n := 3) [(0, .p), (1, .p), (2, .p)] rfl rfl ?_
    refine Run.move rfl E rfl rfl rfl ?_; clear E a; intro a E
    refine Run.len rfl E rfl rfl rfl Try.underlying61 ?_; clear E a; intro a E
    refine Run.move rfl E rfl rfl rfl ?_; clear E a; intro a E
    refine Run.nil ?_
    refine then_n ?_
    refine wp_block ?_
    replace S := S.addNil 43 6
    replace S : St _ _ _ (Pile g1 none 0 none 0 limit 0 [] (barIdx []) ++ [.row (.slice none ([] : List Ent).length 0) 43 6 ([] : List Ent).length (ents [])]) := S.sel [1, 2, 3, 0] _ rfl rfl
    refine wp_loop_ghost (fun n a w => ∃ i : Nat, ∃ l : List Ent, ∃ most : Int, ∃ pA : Option Addr, ∃ pc_ : Nat, ∃ pB : Option Addr, ∃ pd : Nat, ∃ lA : Option Addr, ∃ lc : Nat, ops.length - i = n ∧ Env 209 [(0, .int .i64 limit), (5, .pointer (some ⟨g1, 0, none⟩)), (7, .slice lA l.length lc), (8, .int .i64 most), (48, .slice A ops.length c), (49, .int .i64 (ops.length : Int)), (50, .int .i64 (i : Int))] a ∧ St _ _ w [.obj g1 130 [.int .i64 limit, .int .i64 most, .slice pA l.length pc_, .slice pB ((barIdx l).length) pd], .row (.slice pA l.length pc_) 43 6 l.length (ents l), .row (.slice pB ((barIdx l).length) pd) 3 1 ((barIdx l).length) (ints (barIdx l)), .row (.slice lA l.length lc) 43 6 l.length (ents l)] ∧ (i ≤ ops.length) ∧ (l.length ≤ i) ∧ ((l.length : Int) ≤ most) ∧ (most ≤ 65536)) _ ⟨0, [], 0, none, 0, none, 0, none, 0, rfl, E.keeps [(0, _), (5, _), (7, _), (8, _), (48, _), (49, _), (50, _)] ⟨rfl, rfl, rfl, rfl, rfl, rfl, rfl, trivial⟩, S, Nat.zero_le _, Nat.le_refl _, Int.le_refl _, by decide⟩ ?_
    clear E a S
    rintro n_ a w ⟨i, l, most, pA, pc_, pB, pd, lA, lc, rfl, E, S, hi, hli, hlm, hm0⟩
    refine wp_seq ?_
    refine region_plain (n := 1) [(0, .p)] rfl rfl ?_
    by_cases hlt : i < ops.length
    · skip
      obtain ⟨bO, oO, rfl, hO⟩ := H1.place (by omega)
      refine Run.lss rfl E rfl rfl rfl rfl (decide_eq_true (by omega)) ?_; clear E a; intro a E
      refine Run.nil ?_
      refine then_n ?_
      refine wp_seq ?_
      refine cond_T E rfl ?_
      refine wp_skip ?_
      refine then_n ?_
      refine wp_seq ?_
      refine wp_block ?_
      refine wp_seq ?_
      refine region_plain (n := 4) [(0, .p), (1, .l), (2, .e), (3, .l)] rfl rfl ?_
      refine Run.indexAddr rfl E rfl rfl rfl rfl Try.underlying61 sz63 (by omega) (ix_at' (m' := i) (by omega)) ?_; clear E a; intro a E
      refine Run.loadN (cs := [.int .i64 ((ops[i]).kind), .bool ((ops[i]).e.bar), .int .i64 ((ops[i]).e.pc), .int .i64 ((ops[i]).e.pos), .int .i64 ((ops[i]).e.mark), .int .i64 ((ops[i]).e.org), .int .i64 ((ops[i]).e.val)]) rfl rfl E S rfl rfl rfl ag63 rfl (fun _ s => rdAtL hO s _ _ (pops_get (List.getElem?_eq_getElem hlt))) ?_; clear E a; intro a E
      refine Run.alloc rfl rfl E S rfl rfl z63 rfl ?_; clear E a S; intro b2 w a E S B_; clear B_
      refine Run.store (news := [.int .i64 ((ops[i]).kind), .bool ((ops[i]).e.bar), .int .i64 ((ops[i]).e.pc), .int .i64 ((ops[i]).e.pos), .int .i64 ((ops[i]).e.mark), .int .i64 ((ops[i]).e.org), .int .i64 ((ops[i]).e.val)]) (cs' := [_, _, _, _, _, _, _]) (hp' := [_, _, _, _, _]) 0 rfl E S rfl rfl rfl rfl rfl sz63 rfl rfl rfl rfl ?_; clear S; intro w S
      refine Run.nil ?_
      refine then_n ?_
      refine wp_seq ?_
      refine region_plain (n := 3) [(0, .p), (1, .e), (2, .p)] rfl rfl ?_
      refine Run.move rfl E rfl rfl rfl ?_; clear E a; intro a E
      refine Run.call (args := [.slice lA l.length lc]) rfl rfl E rfl rfl Try.func33 nm33 rfl rfl (law_bar (S.rd 4 rfl) (by omega)) ?_; rintro e_ w ⟨rfl, B_⟩; refine ⟨_, rfl, fun _ => B_, ?_⟩; clear E a; replace S := S.bel B_; intro a E
      clear B_
      refine Run.assign rfl E rfl rfl rfl ?_; clear E a; intro a E
      refine Run.nil ?_
      refine then_n ?_
      refine wp_mid (fun a w => ∃ l' : List Ent, ∃ most' : Int, ∃ pA : Option Addr, ∃ pc_ : Nat, ∃ pB : Option Addr, ∃ pd : Nat, ∃ lA' : Option Addr, ∃ lc' : Nat, ∃ lm : Int, Env 209 [(0, .int .i64 limit), (5, .pointer (some ⟨g1, 0, none⟩)), (7, .slice (lA') (l'.length) (lc')), (8, .int .i64 lm), (11, .int .i64 (barAt l)), (48, .slice (some ⟨bO, oO, none⟩) ops.length c), (49, .int .i64 (ops.length : Int)), (50, .int .i64 (i : Int))] a ∧ St [] w0 w [.obj g1 130 [.int .i64 limit, .int .i64 (most'), .slice pA ((l').length) pc_, .slice pB ((barIdx l').length) pd], .row (.slice pA ((l').length) pc_) 43 6 ((l').length) (ents (l')), .row (.slice pB ((barIdx l').length) pd) 3 1 ((barIdx l').length) (ints (barIdx l')), .row (.slice (lA') ((l').length) (lc')) 43 6 ((l').length) (ents (l'))] ∧ (l'.length ≤ i + 1) ∧ ((l'.length : Int) ≤ most') ∧ (most' ≤ 65536) ∧ ((if (l'.length : Int) > lm then (l'.length : Int) else lm) = most')) ?_ ?_
      · skip
        refine wp_seq ?_
        refine region_plain (n := 2) [(0, .p), (1, .l)] rfl rfl ?_
        refine Run.fieldAddr rfl E rfl rfl rfl fo63_0 (rfl) ?_; clear E a; intro a E
        refine Run.load1 rfl rfl E S rfl rfl rfl one3 (fun _ s => s.objCell 0 0 rfl rfl) ?_; clear E a; intro a E
        refine Run.nil ?_
        refine then_n ?_
        refine wp_block ?_
        refine wp_seq ?_
        refine region_plain (n := 2) [(0, .p), (1, .p)] rfl rfl ?_
        by_cases hk1 : (ops[i]).kind = 1
        · skip
          refine Run.eqi rfl E rfl rfl rfl rfl (decide_eq_true (by omega)) ?_; clear E a; intro a E
          refine Run.assign rfl E rfl rfl rfl ?_; clear E a; intro a E
          refine Run.nil ?_
          refine then_n ?_
          refine cond_T E rfl ?_
          refine wp_seq ?_
          refine wp_seq ?_
          refine region_plain (n := 9) [(0, .p), (1, .p), (2, .l), (3, .l), (4, .p), (5, .p), (6, .p), (7, .p), (8, .p)] rfl rfl ?_
          by_cases hr : (l.length : Int) < limit
          · skip
            refine Run.move rfl E rfl rfl rfl ?_; clear E a; intro a E
            refine Run.fieldAddr rfl E rfl rfl rfl fo63_1 (rfl) ?_; clear E a; intro a E
            refine Run.loadN (cs := [.bool ((ops[i]).e.bar), .int .i64 ((ops[i]).e.pc), .int .i64 ((ops[i]).e.pos), .int .i64 ((ops[i]).e.mark), .int .i64 ((ops[i]).e.org), .int .i64 ((ops[i]).e.val)]) rfl rfl E S rfl rfl rfl ag43 rfl (fun _ s => objPart s 0 1 _ rfl rfl) ?_; clear E a; intro a E
            replace S : St _ _ _ [.obj _ _ [_, _, _, _], _, _, .obj _ _ [_, _, _, _, _, _, _], _] := S.sel [1, 2, 3, 0, 4] _ rfl rfl
            refine Run.call (args := [.pointer (some ⟨g1, 0, none⟩), .agg #[.bool ((ops[i]).e.bar), .int .i64 ((ops[i]).e.pc), .int .i64 ((ops[i]).e.pos), .int .i64 ((ops[i]).e.mark), .int .i64 ((ops[i]).e.org), .int .i64 ((ops[i]).e.val)]]) rfl rfl E rfl rfl Try.func30 nm30 rfl rfl (push_any (e := (ops[i]).e) (mx := (if ((l.length + 1 : Nat) : Int) > most then ((l.length + 1 : Nat) : Int) else most)) (l' := l ++ [(ops[i]).e]) (St.ownL (A := (Pile g1 pA pc_ pB pd limit most l (barIdx l))) (R := [_, _]) S) hr h1 rfl rfl) ?_; rintro e_ w ⟨rfl, A3, c4, B5, d6, S_⟩; refine ⟨_, rfl, (fun h => by cases h), ?_⟩; clear E a; intro a E
            replace S : St _ _ _ [.obj _ _ [_, _, _, _], _, _, .obj _ _ [_, _, _, _, _, _, _], _] := St.call (A := (Pile g1 pA pc_ pB pd limit most l (barIdx l))) (R := [_, _]) S S_; clear S_
            refine Run.move rfl E rfl rfl rfl ?_; clear E a; intro a E
            refine Run.len rfl E rfl rfl rfl Try.underlying38 ?_; clear E a; intro a E
            refine Run.move rfl E rfl rfl rfl ?_; clear E a; intro a E
            refine Run.lss rfl E rfl rfl rfl rfl (decide_eq_true (hr)) ?_; clear E a; intro a E
            refine Run.neb (c := false) rfl E rfl rfl rfl rfl Try.underlying4 rfl ?_; clear E a; intro a E
            refine Run.nil ?_
            refine then_n ?_
            refine cond_F E rfl ?_
            refine wp_skip ?_
            refine then_n ?_
            refine wp_seq ?_
            refine region_plain (n := 4) [(0, .p), (1, .p), (2, .p), (3, .p)] rfl rfl ?_
            refine Run.move rfl E rfl rfl rfl ?_; clear E a; intro a E
            refine Run.len rfl E rfl rfl rfl Try.underlying38 ?_; clear E a; intro a E
            refine Run.move rfl E rfl rfl rfl ?_; clear E a; intro a E
            refine Run.lss rfl E rfl rfl rfl rfl (decide_eq_true (hr)) ?_; clear E a; intro a E
            refine Run.nil ?_
            refine then_n ?_
            refine cond_T E rfl ?_
            refine region_plain (n := 6) [(0, .p), (1, .p), (2, .l), (3, .e), (4, .l), (5, .p)] rfl rfl ?_
            refine Run.move rfl E rfl rfl rfl ?_; clear E a; intro a E
            refine Run.fieldAddr rfl E rfl rfl rfl fo63_1 (rfl) ?_; clear E a; intro a E
            refine Run.loadN (cs := [.bool ((ops[i]).e.bar), .int .i64 ((ops[i]).e.pc), .int .i64 ((ops[i]).e.pos), .int .i64 ((ops[i]).e.mark), .int .i64 ((ops[i]).e.org), .int .i64 ((ops[i]).e.val)]) rfl rfl E S rfl rfl rfl ag43 rfl (fun _ s => objPart s 3 1 _ rfl rfl) ?_; clear E a; intro a E
            refine Run.buildSlice (cs := [.bool ((ops[i]).e.bar), .int .i64 ((ops[i]).e.pc), .int .i64 ((ops[i]).e.pos), .int .i64 ((ops[i]).e.mark), .int .i64 ((ops[i]).e.org), .int .i64 ((ops[i]).e.val)]) [(0, .agg #[.bool ((ops[i]).e.bar), .int .i64 ((ops[i]).e.pc), .int .i64 ((ops[i]).e.pos), .int .i64 ((ops[i]).e.mark), .int .i64 ((ops[i]).e.org), .int .i64 ((ops[i]).e.val)])] rfl rfl E S rfl rfl rfl Try.underlying38 (by kernel_rfl) ?_; clear E a S; intro b7 w a E S B_; clear B_
            refine Run.append (news := ((ops[i]).e).cells) (nm := (l ++ [(ops[i]).e]).length) 5 rfl E S rfl rfl rfl rfl rfl Try.underlying38 I43 rfl rfl rfl (objNews S 0 rfl) (by simp [Ent.cells, Value.oneCell']) (by simp) (by simp; omega) (by simp; omega) ?_; clear E a S; intro A8 c9 w a E S
            rw [ents_snoc] at S
            replace S : St _ _ _ [.obj _ _ [_, _, _, _, _, _], .obj _ _ [_, _, _, _], _, _, .obj _ _ [_, _, _, _, _, _, _], _] := S
            refine Run.assign rfl E rfl rfl rfl ?_; clear E a; intro a E
            refine Run.nil ?_
            refine blk_n ?_
            refine then_n ?_
            have S : St _ _ _ [_, _, _, _, _, _] := S.sel [0, 4, 1, 2, 3, 5] _ rfl rfl
            have S := S.drop1.drop1
            exact ⟨l ++ [(ops[i]).e], (if ((l.length + 1 : Nat) : Int) > most then ((l.length + 1 : Nat) : Int) else most), A3, c4, B5, d6, A8, c9, most, E.keeps [(0, _), (5, _), (7, _), (8, _), (11, _), (48, _), (49, _), (50, _)] ⟨rfl, rfl, rfl, rfl, rfl, rfl, rfl, rfl, trivial⟩, S, by simp; omega, by rw [List.length_append]; simp only [List.length_singleton]; split <;> omega, by split <;> omega, by rw [List.length_append]; rfl⟩
          · skip
            refine Run.move rfl E rfl rfl rfl ?_; clear E a; intro a E
            refine Run.fieldAddr rfl E rfl rfl rfl fo63_1 (rfl) ?_; clear E a; intro a E
            refine Run.loadN (cs := [.bool ((ops[i]).e.bar), .int .i64 ((ops[i]).e.pc), .int .i64 ((ops[i]).e.pos), .int .i64 ((ops[i]).e.mark), .int .i64 ((ops[i]).e.org), .int .i64 ((ops[i]).e.val)]) rfl rfl E S rfl rfl rfl ag43 rfl (fun _ s => objPart s 0 1 _ rfl rfl) ?_; clear E a; intro a E
            replace S : St _ _ _ [.obj _ _ [_, _, _, _], _, _, .obj _ _ [_, _, _, _, _, _, _], _] := S.sel [1, 2, 3, 0, 4] _ rfl rfl
            refine Run.call (args := [.pointer (some ⟨g1, 0, none⟩), .agg #[.bool ((ops[i]).e.bar), .int .i64 ((ops[i]).e.pc), .int .i64 ((ops[i]).e.pos), .int .i64 ((ops[i]).e.mark), .int .i64 ((ops[i]).e.org), .int .i64 ((ops[i]).e.val)]]) rfl rfl E rfl rfl Try.func30 nm30 rfl rfl (push_full (e := (ops[i]).e) (St.ownL (A := (Pile g1 pA pc_ pB pd limit most l (barIdx l))) (R := [_, _]) S) (by omega)) ?_; rintro e_ w ⟨rfl, S_⟩; refine ⟨_, rfl, (fun h => by cases h), ?_⟩; clear E a; intro a E
            replace S : St _ _ _ [.obj _ _ [_, _, _, _], _, _, .obj _ _ [_, _, _, _, _, _, _], _] := St.call (A := (Pile g1 pA pc_ pB pd limit most l (barIdx l))) (R := [_, _]) S S_; clear S_
            refine Run.move rfl E rfl rfl rfl ?_; clear E a; intro a E
            refine Run.len rfl E rfl rfl rfl Try.underlying38 ?_; clear E a; intro a E
            refine Run.move rfl E rfl rfl rfl ?_; clear E a; intro a E
            refine Run.lss rfl E rfl rfl rfl rfl (decide_eq_false (hr)) ?_; clear E a; intro a E
            refine Run.neb (c := false) rfl E rfl rfl rfl rfl Try.underlying4 rfl ?_; clear E a; intro a E
            refine Run.nil ?_
            refine then_n ?_
            refine cond_F E rfl ?_
            refine wp_skip ?_
            refine then_n ?_
            refine wp_seq ?_
            refine region_plain (n := 4) [(0, .p), (1, .p), (2, .p), (3, .p)] rfl rfl ?_
            refine Run.move rfl E rfl rfl rfl ?_; clear E a; intro a E
            refine Run.len rfl E rfl rfl rfl Try.underlying38 ?_; clear E a; intro a E
            refine Run.move rfl E rfl rfl rfl ?_; clear E a; intro a E
            refine Run.lss rfl E rfl rfl rfl rfl (decide_eq_false (hr)) ?_; clear E a; intro a E
            refine Run.nil ?_
            refine then_n ?_
            refine cond_F E rfl ?_
            refine wp_skip ?_
            refine blk_n ?_
            refine then_n ?_
            have S : St _ _ _ [_, _, _, _, _] := S.sel [3, 0, 1, 2, 4] _ rfl rfl
            have S := S.drop1
            exact ⟨l, most, pA, pc_, pB, pd, lA, lc, most, E.keeps [(0, _), (5, _), (7, _), (8, _), (11, _), (48, _), (49, _), (50, _)] ⟨rfl, rfl, rfl, rfl, rfl, rfl, rfl, rfl, trivial⟩, S, by omega, hlm, hm0, if_neg (by omega)⟩
        · skip
          refine Run.eqi rfl E rfl rfl rfl rfl (decide_eq_false (by omega)) ?_; clear E a; intro a E
          refine Run.assign rfl E rfl rfl rfl ?_; clear E a; intro a E
          refine Run.nil ?_
          refine then_n ?_
          refine cond_F E rfl ?_
          refine wp_seq ?_
          refine region_plain (n := 2) [(0, .p), (1, .p)] rfl rfl ?_
          by_cases hk2 : (ops[i]).kind = 2
          · skip
            refine Run.eqi rfl E rfl rfl rfl rfl (decide_eq_true (by omega)) ?_; clear E a; intro a E
            refine Run.assign rfl E rfl rfl rfl ?_; clear E a; intro a E
            refine Run.nil ?_
            refine then_n ?_
            refine cond_T E rfl ?_
            refine wp_seq ?_
            refine region_plain (n := 8) [(0, .p), (1, .l), (2, .p), (3, .p), (4, .p), (5, .e), (6, .l), (7, .p)] rfl rfl ?_
            refine Run.move rfl E rfl rfl rfl ?_; clear E a; intro a E
            replace S : St _ _ _ [.obj _ _ [_, _, _, _], _, _, .obj _ _ [_, _, _, _, _, _, _], _] := S.sel [1, 2, 3, 0, 4] _ rfl rfl
            refine Run.call (args := [.pointer (some ⟨g1, 0, none⟩)]) rfl rfl E rfl rfl Try.func45 nm45 rfl rfl (pop_any (St.ownL (A := (Pile g1 pA pc_ pB pd limit most l (barIdx l))) (R := [_, _]) S) (by omega)) ?_; rintro e_ w ⟨rfl, S_⟩; refine ⟨_, rfl, (fun h => by cases h), ?_⟩; clear E a; intro a E
            replace S : St _ _ _ [.obj _ _ [_, _, _, _], _, _, .obj _ _ [_, _, _, _, _, _, _], _] := St.call (A := (Pile g1 pA pc_ pB pd limit most l (barIdx l))) (R := [_, _]) S S_; clear S_
            refine Run.move rfl E rfl rfl rfl ?_; clear E a; intro a E
            refine Run.extract rfl E rfl rfl rfl rfl ?_; clear E a; intro a E
            refine Run.extract rfl E rfl rfl rfl rfl ?_; clear E a; intro a E
            refine Run.alloc rfl rfl E S rfl rfl z43 rfl ?_; clear E a S; intro b10 w a E S B_; clear B_
            refine Run.store (news := [.bool ((lastE l).bar), .int .i64 ((lastE l).pc), .int .i64 ((lastE l).pos), .int .i64 ((lastE l).mark), .int .i64 ((lastE l).org), .int .i64 ((lastE l).val)]) (cs' := [_, _, _, _, _, _]) (hp' := [_, _, _, _, _, _]) 0 rfl E S rfl rfl rfl rfl rfl sz43 rfl rfl rfl rfl ?_; clear S; intro w S
            refine Run.assign rfl E rfl rfl rfl ?_; clear E a; intro a E
            refine Run.nil ?_
            refine then_n ?_
            refine wp_seq ?_
            refine wp_seq ?_
            refine region_drawS (n := 11) [(1, .p), (0, .t), (2, .e), (3, .p), (4, .p), (5, .p), (6, .p), (7, .p), (8, .p), (9, .p), (10, .p)] [0, 0, 2, 7, 15, 31, 31, 95, 223, 511, 1023] S mixed rfl rfl (by kernel_rfl) (fun _ _ _ _ _ h => h) ?_; clear S; intro w S B_; clear B_
            refine Run.move rfl E rfl rfl rfl ?_; clear E a; intro a E
            refine Run.loadN (cs := [.bool ((lastE l).bar), .int .i64 ((lastE l).pc), .int .i64 ((lastE l).pos), .int .i64 ((lastE l).mark), .int .i64 ((lastE l).org), .int .i64 ((lastE l).val)]) rfl rfl E S rfl rfl rfl ag43 rfl (fun _ s => objAll s 0 rfl) ?_; clear E a; intro a E
            refine Run.call (args := [.slice lA l.length lc]) rfl rfl E rfl rfl Try.func36 nm36 rfl rfl (law_last (S.rd 5 rfl) (by omega)) ?_; rintro e_ w ⟨rfl, B_⟩; refine ⟨_, rfl, fun _ => B_, ?_⟩; clear E a; replace S := S.bel B_; intro a E
            clear B_
            refine Run.bin (v := .bool false) rfl E rfl rfl rfl rfl (fun w => (run_ne43 _ _ (lastE l) (lastE l) w).trans (by rw [decide_eq_false (fun h => h (rfl))])) ?_; clear E a; intro a E
            refine Run.move rfl E rfl rfl rfl ?_; clear E a; intro a E
            refine Run.move rfl E rfl rfl rfl ?_; clear E a; intro a E
            refine Run.move rfl E rfl rfl rfl ?_; clear E a; intro a E
            refine Run.len rfl E rfl rfl rfl Try.underlying38 ?_; clear E a; intro a E
            refine Run.gtr rfl E rfl rfl rfl rfl rfl ?_; clear E a; intro a E
            refine Run.neb (c := false) rfl E rfl rfl rfl rfl Try.underlying4 (by simp) ?_; clear E a; intro a E
            refine Run.pickF rfl E rfl rfl rfl rfl ?_; clear E a; intro a E
            refine Run.nil ?_
            refine then_n ?_
            refine cond_F E rfl ?_
            refine wp_skip ?_
            refine then_n ?_
            have hcL := S.rowCap 5 rfl
            refine region_plain (n := 7) [(0, .p), (1, .p), (2, .p), (3, .p), (4, .p), (5, .p), (6, .p)] rfl rfl ?_
            refine Run.move rfl E rfl rfl rfl ?_; clear E a; intro a E
            refine Run.move rfl E rfl rfl rfl ?_; clear E a; intro a E
            refine Run.len rfl E rfl rfl rfl Try.underlying38 ?_; clear E a; intro a E
            refine Run.sub rfl E rfl rfl rfl rfl (i64_ok (by omega)) ?_; clear E a; intro a E
            refine Run.max rfl E rfl rfl rfl rfl (q := ((l.length - 1 : Nat) : Int)) (by split <;> omega) ?_; clear E a; intro a E
            refine Run.sliceH rfl E rfl rfl rfl rfl Try.underlying38 sz43 (by omega) (q := (l.length - 1)) (by omega) ?_; clear E a; intro a E
            refine Run.assign rfl E rfl rfl rfl ?_; clear E a; intro a E
            replace S := S.rowTake 5 ((l.length - 1)) rfl (by omega) rfl
            rw [ents_take, ← List.dropLast_eq_take, show l.length - 1 = l.dropLast.length from by simp] at S
            rw [show l.length - 1 = l.dropLast.length from by simp] at E
            replace S : St _ _ _ [.obj _ _ [_, _, _, _, _, _], .obj _ _ [_, _, _, _], _, _, .obj _ _ [_, _, _, _, _, _, _], _] := S
            refine Run.nil ?_
            refine blk_n ?_
            refine then_n ?_
            have S : St _ _ _ [_, _, _, _, _, _] := S.sel [0, 4, 1, 2, 3, 5] _ rfl rfl
            have S := S.drop1.drop1
            exact ⟨l.dropLast, most, pA, pc_, pB, pd, lA, lc, most, E.keeps [(0, _), (5, _), (7, _), (8, _), (11, _), (48, _), (49, _), (50, _)] ⟨rfl, rfl, rfl, rfl, rfl, rfl, rfl, rfl, trivial⟩, S, by simp; omega, by simp; omega, hm0, if_neg (by simp; omega)⟩
          · skip
            refine Run.eqi rfl E rfl rfl rfl rfl (decide_eq_false (by omega)) ?_; clear E a; intro a E
            refine Run.assign rfl E rfl rfl rfl ?_; clear E a; intro a E
            refine Run.nil ?_
            refine then_n ?_
            refine cond_F E rfl ?_
            refine wp_seq ?_
            refine region_plain (n := 2) [(0, .p), (1, .p)] rfl rfl ?_
            by_cases hk3 : (ops[i]).kind = 3
            · skip
              refine Run.eqi rfl E rfl rfl rfl rfl (decide_eq_true (by omega)) ?_; clear E a; intro a E
              refine Run.assign rfl E rfl rfl rfl ?_; clear E a; intro a E
              refine Run.nil ?_
              refine then_n ?_
              refine cond_T E rfl ?_
              refine wp_seq ?_
              refine region_plain (n := 8) [(0, .p), (1, .l), (2, .p), (3, .p), (4, .p), (5, .e), (6, .l), (7, .p)] rfl rfl ?_
              refine Run.move rfl E rfl rfl rfl ?_; clear E a; intro a E
              replace S : St _ _ _ [.obj _ _ [_, _, _, _], _, _, .obj _ _ [_, _, _, _, _, _, _], _] := S.sel [1, 2, 3, 0, 4] _ rfl rfl
              refine Run.call (args := [.pointer (some ⟨g1, 0, none⟩)]) rfl rfl E rfl rfl Try.func31 nm31 rfl rfl (cut_any (St.ownL (A := (Pile g1 pA pc_ pB pd limit most l (barIdx l))) (R := [_, _]) S) (by omega)) ?_; rintro e_ w ⟨rfl, S_⟩; refine ⟨_, rfl, (fun h => by cases h), ?_⟩; clear E a; intro a E
              replace S : St _ _ _ [.obj _ _ [_, _, _, _], _, _, .obj _ _ [_, _, _, _, _, _, _], _] := St.call (A := (Pile g1 pA pc_ pB pd limit most l (barIdx l))) (R := [_, _]) S S_; clear S_
              refine Run.move rfl E rfl rfl rfl ?_; clear E a; intro a E
              refine Run.extract rfl E rfl rfl rfl rfl ?_; clear E a; intro a E
              refine Run.extract rfl E rfl rfl rfl rfl ?_; clear E a; intro a E
              refine Run.alloc rfl rfl E S rfl rfl z43 rfl ?_; clear E a S; intro b11 w a E S B_; clear B_
              refine Run.store (news := [.bool ((barE l).bar), .int .i64 ((barE l).pc), .int .i64 ((barE l).pos), .int .i64 ((barE l).mark), .int .i64 ((barE l).org), .int .i64 ((barE l).val)]) (cs' := [_, _, _, _, _, _]) (hp' := [_, _, _, _, _, _]) 0 rfl E S rfl rfl rfl rfl rfl sz43 rfl rfl rfl rfl ?_; clear S; intro w S
              refine Run.assign rfl E rfl rfl rfl ?_; clear E a; intro a E
              refine Run.nil ?_
              refine then_n ?_
              refine wp_seq ?_
              refine wp_seq ?_
              by_cases hat : 0 ≤ barAt l
              · skip
                have hbl := barAt_lt l hat
                obtain ⟨bL, rfl⟩ := S.rowAddr 5 rfl (by omega)
                replace E := E.setb 15 rfl (decide_eq_true hat)
                refine region_drawS (n := 24) [(0, .p), (1, .p), (2, .p), (3, .p), (4, .p), (5, .p), (6, .p), (7, .p), (8, .p), (9, .p), (10, .p), (11, .p), (12, .p), (13, .p), (14, .p), (15, .p), (17, .p), (18, .p), (19, .p), (16, .t), (20, .t), (21, .p), (22, .p), (23, .p)] [0, 0, 2, 7, 15, 31, 63, 127, 255, 255, 1023, 2047, 4095, 8191, 16383, 32767, 65535, 65535, 65535, 458751, 983039, 2097151, 4194303, 8388607] S mixed rfl rfl (by kernel_rfl) (fun _ _ _ _ _ h => h) ?_; clear S; intro w S B_; clear B_
                refine Run.move rfl E rfl rfl rfl ?_; clear E a; intro a E
                refine Run.move rfl E rfl rfl rfl ?_; clear E a; intro a E
                refine Run.geq rfl E rfl rfl rfl rfl (decide_eq_true (hat)) ?_; clear E a; intro a E
                refine Run.neb (c := false) rfl E rfl rfl rfl rfl Try.underlying4 (by simp) ?_; clear E a; intro a E
                refine Run.move rfl E rfl rfl rfl ?_; clear E a; intro a E
                refine Run.move rfl E rfl rfl rfl ?_; clear E a; intro a E
                refine Run.not rfl E rfl rfl rfl rfl ?_; clear E a; intro a E
                refine Run.move rfl E rfl rfl rfl ?_; clear E a; intro a E
                refine Run.off rfl E rfl rfl ?_; clear E a; intro a E
                refine Run.off rfl E rfl rfl ?_; clear E a; intro a E
                refine Run.off rfl E rfl rfl ?_; clear E a; intro a E
                refine Run.pickF rfl E rfl rfl rfl rfl ?_; clear E a; intro a E
                refine Run.pickF rfl E rfl rfl rfl rfl ?_; clear E a; intro a E
                refine Run.move rfl E rfl rfl rfl ?_; clear E a; intro a E
                refine Run.move rfl E rfl rfl rfl ?_; clear E a; intro a E
                refine Run.move rfl E rfl rfl rfl ?_; clear E a; intro a E
                refine Run.move rfl E rfl rfl rfl ?_; clear E a; intro a E
                refine Run.move rfl E rfl rfl rfl ?_; clear E a; intro a E
                refine Run.indexAddr rfl E rfl rfl rfl rfl Try.underlying38 sz43 (⟨hat, hbl⟩) (ix_at (m' := (barAt l).toNat) (o := ((barAt l).toNat) * 6) (by omega) rfl) ?_; clear E a; intro a E
                refine Run.loadN (cs := [.bool ((barE l).bar), .int .i64 ((barE l).pc), .int .i64 ((barE l).pos), .int .i64 ((barE l).mark), .int .i64 ((barE l).org), .int .i64 ((barE l).val)]) rfl rfl E S rfl rfl rfl ag43 rfl (fun _ s => objAll s 0 rfl) ?_; clear E a; intro a E
                refine Run.loadN (cs := [.bool ((barE l).bar), .int .i64 ((barE l).pc), .int .i64 ((barE l).pos), .int .i64 ((barE l).mark), .int .i64 ((barE l).org), .int .i64 ((barE l).val)]) rfl rfl E S rfl rfl rfl ag43 rfl (fun _ s => rowAt s 5 _ _ rfl (ents_get (barE_at hat))) ?_; clear E a; intro a E
                refine Run.bin (v := .bool false) rfl E rfl rfl rfl rfl (fun w => (run_ne43 _ _ (barE l) (barE l) w).trans (by rw [decide_eq_false (fun h => h (rfl))])) ?_; clear E a; intro a E
                refine Run.pickT rfl E rfl rfl rfl rfl ?_; clear E a; intro a E
                refine Run.pickF rfl E rfl rfl rfl rfl ?_; clear E a; intro a E
                refine Run.nil ?_
                refine then_n ?_
                refine cond_F E rfl ?_
                refine wp_skip ?_
                refine then_n ?_
                refine wp_seq ?_
                refine region_plain (n := 2) [(0, .p), (1, .p)] rfl rfl ?_
                refine Run.move rfl E rfl rfl rfl ?_; clear E a; intro a E
                refine Run.geq rfl E rfl rfl rfl rfl (decide_eq_true (hat)) ?_; clear E a; intro a E
                refine Run.nil ?_
                refine then_n ?_
                refine cond_T E rfl ?_
                have hcL := S.rowCap 5 rfl
                refine region_plain (n := 4) [(0, .p), (1, .p), (2, .p), (3, .p)] rfl rfl ?_
                refine Run.move rfl E rfl rfl rfl ?_; clear E a; intro a E
                refine Run.move rfl E rfl rfl rfl ?_; clear E a; intro a E
                refine Run.sliceH rfl E rfl rfl rfl rfl Try.underlying38 sz43 (⟨hat, by omega⟩) (q := (barAt l).toNat) (by omega) ?_; clear E a; intro a E
                refine Run.assign rfl E rfl rfl rfl ?_; clear E a; intro a E
                replace S := S.rowTake 5 ((barAt l).toNat) rfl (by omega) rfl
                rw [ents_take, show l.take (barAt l).toNat = cutL l from by unfold cutL; rw [if_pos hat], show (barAt l).toNat = (cutL l).length from by unfold cutL; rw [if_pos hat]; simp; omega] at S
                rw [show (barAt l).toNat = (cutL l).length from by unfold cutL; rw [if_pos hat]; simp; omega] at E
                replace S : St _ _ _ [.obj _ _ [_, _, _, _, _, _], .obj _ _ [_, _, _, _], _, _, .obj _ _ [_, _, _, _, _, _, _], _] := S
                refine Run.nil ?_
                refine blk_n ?_
                refine then_n ?_
                have S : St _ _ _ [_, _, _, _, _, _] := S.sel [0, 4, 1, 2, 3, 5] _ rfl rfl
                have S := S.drop1.drop1
                exact ⟨cutL l, most, pA, pc_, pB, pd, (some ⟨bL, 0, none⟩), lc, most, E.keeps [(0, _), (5, _), (7, _), (8, _), (11, _), (48, _), (49, _), (50, _)] ⟨rfl, rfl, rfl, rfl, rfl, rfl, rfl, rfl, trivial⟩, S, by have := cutL_len l; omega, by have := cutL_len l; omega, hm0, if_neg (by have := cutL_len l; omega)⟩
              · skip
                replace E := E.setb 15 rfl (decide_eq_false hat)
                have hbz := barAt_neg hat
                refine region_drawS (n := 24) [(0, .p), (1, .p), (2, .p), (3, .p), (4, .p), (5, .p), (6, .p), (7, .p), (9, .p), (8, .t), (10, .p), (11, .p), (12, .p), (13, .p), (14, .p), (15, .p), (16, .p), (17, .p), (18, .p), (19, .p), (20, .p), (21, .p), (22, .p), (23, .p)] [0, 0, 2, 7, 15, 31, 63, 127, 255, 255, 1023, 2047, 4095, 8191, 16383, 32767, 65535, 65535, 65535, 458751, 983039, 2097151, 4194303, 8388607] S mixed rfl rfl (by kernel_rfl) (fun _ _ _ _ _ h => h) ?_; clear S; intro w S B_; clear B_
                refine Run.move rfl E rfl rfl rfl ?_; clear E a; intro a E
                refine Run.move rfl E rfl rfl rfl ?_; clear E a; intro a E
                refine Run.geq rfl E rfl rfl rfl rfl (decide_eq_false (hat)) ?_; clear E a; intro a E
                refine Run.neb (c := false) rfl E rfl rfl rfl rfl Try.underlying4 (by simp) ?_; clear E a; intro a E
                refine Run.move rfl E rfl rfl rfl ?_; clear E a; intro a E
                refine Run.move rfl E rfl rfl rfl ?_; clear E a; intro a E
                refine Run.not rfl E rfl rfl rfl rfl ?_; clear E a; intro a E
                refine Run.move rfl E rfl rfl rfl ?_; clear E a; intro a E
                refine Run.build (cs := #[.bool false, .int .i64 0, .int .i64 0, .int .i64 0, .int .i64 0, .int .i64 0]) [] rfl E rfl rfl rfl rfl ?_; clear E a; intro a E
                refine Run.loadN (cs := [.bool ((barE l).bar), .int .i64 ((barE l).pc), .int .i64 ((barE l).pos), .int .i64 ((barE l).mark), .int .i64 ((barE l).org), .int .i64 ((barE l).val)]) rfl rfl E S rfl rfl rfl ag43 rfl (fun _ s => objAll s 0 rfl) ?_; clear E a; intro a E
                refine Run.bin (v := .bool false) rfl E rfl rfl rfl rfl (fun w => (run_ne43 _ _ (barE l) Ent.none w).trans (by rw [barE_none hbz, decide_eq_false (fun h => h rfl)])) ?_; clear E a; intro a E
                refine Run.pickT rfl E rfl rfl rfl rfl ?_; clear E a; intro a E
                refine Run.pickF rfl E rfl rfl rfl rfl ?_; clear E a; intro a E
                refine Run.move rfl E rfl rfl rfl ?_; clear E a; intro a E
                refine Run.move rfl E rfl rfl rfl ?_; clear E a; intro a E
                refine Run.move rfl E rfl rfl rfl ?_; clear E a; intro a E
                refine Run.off rfl E rfl rfl ?_; clear E a; intro a E
                refine Run.off rfl E rfl rfl ?_; clear E a; intro a E
                refine Run.off rfl E rfl rfl ?_; clear E a; intro a E
                refine Run.off rfl E rfl rfl ?_; clear E a; intro a E
                refine Run.off rfl E rfl rfl ?_; clear E a; intro a E
                refine Run.off rfl E rfl rfl ?_; clear E a; intro a E
                refine Run.pickF rfl E rfl rfl rfl rfl ?_; clear E a; intro a E
                refine Run.pickF rfl E rfl rfl rfl rfl ?_; clear E a; intro a E
                refine Run.nil ?_
                refine then_n ?_
                refine cond_F E rfl ?_
                refine wp_skip ?_
                refine then_n ?_
                refine wp_seq ?_
                rw [cutL_none hbz] at S
                refine region_plain (n := 2) [(0, .p), (1, .p)] rfl rfl ?_
                refine Run.move rfl E rfl rfl rfl ?_; clear E a; intro a E
                refine Run.geq rfl E rfl rfl rfl rfl (decide_eq_false (hat)) ?_; clear E a; intro a E
                refine Run.nil ?_
                refine then_n ?_
                refine cond_F E rfl ?_
                refine wp_skip ?_
                refine blk_n ?_
                refine then_n ?_
                have S : St _ _ _ [_, _, _, _, _, _] := S.sel [0, 4, 1, 2, 3, 5] _ rfl rfl
                have S := S.drop1.drop1
                exact ⟨l, most, pA, pc_, pB, pd, lA, lc, most, E.keeps [(0, _), (5, _), (7, _), (8, _), (11, _), (48, _), (49, _), (50, _)] ⟨rfl, rfl, rfl, rfl, rfl, rfl, rfl, rfl, trivial⟩, S, by omega, hlm, hm0, if_neg (by omega)⟩
            · skip
              refine Run.eqi rfl E rfl rfl rfl rfl (decide_eq_false (by omega)) ?_; clear E a; intro a E
              refine Run.assign rfl E rfl rfl rfl ?_; clear E a; intro a E
              refine Run.nil ?_
              refine then_n ?_
              refine cond_F E rfl ?_
              refine wp_seq ?_
              refine region_plain (n := 2) [(0, .p), (1, .p)] rfl rfl ?_
              by_cases hk4 : (ops[i]).kind = 4
              · skip
                refine Run.eqi rfl E rfl rfl rfl rfl (decide_eq_true (by omega)) ?_; clear E a; intro a E
                refine Run.assign rfl E rfl rfl rfl ?_; clear E a; intro a E
                refine Run.nil ?_
                refine then_n ?_
                refine cond_T E rfl ?_
                refine wp_seq ?_
                refine region_plain (n := 2) [(0, .p), (1, .l)] rfl rfl ?_
                refine Run.move rfl E rfl rfl rfl ?_; clear E a; intro a E
                replace S : St _ _ _ [.obj _ _ [_, _, _, _], _, _, .obj _ _ [_, _, _, _, _, _, _], _] := S.sel [1, 2, 3, 0, 4] _ rfl rfl
                refine Run.call (args := [.pointer (some ⟨g1, 0, none⟩)]) rfl rfl E rfl rfl Try.func47 nm47 rfl rfl (pile_clear (St.ownL (A := (Pile g1 pA pc_ pB pd limit most l (barIdx l))) (R := [_, _]) S)) ?_; rintro e_ w ⟨rfl, S_⟩; refine ⟨_, rfl, (fun h => by cases h), ?_⟩; clear E a; intro a E
                replace S : St _ _ _ [.obj _ _ [_, _, _, _], _, _, .obj _ _ [_, _, _, _, _, _, _], _] := St.call (A := (Pile g1 pA pc_ pB pd limit most l (barIdx l))) (R := [_, _]) S S_; clear S_
                refine Run.nil ?_
                refine then_n ?_
                refine region_plain (n := 1) [(0, .p)] rfl rfl ?_
                refine Run.assign rfl E rfl rfl rfl ?_; clear E a; intro a E
                replace S := (S.addNil 43 6)
                replace S : St _ _ _ [.row (.slice none (([] : List Ent).length) 0) 43 6 (([] : List Ent).length) (ents []), .obj _ _ [_, _, _, _], _, _, .obj _ _ [_, _, _, _, _, _, _], _] := S
                refine Run.nil ?_
                refine blk_n ?_
                refine then_n ?_
                have S : St _ _ _ [_, _, _, _, _, _] := S.sel [4, 5, 1, 2, 3, 0] _ rfl rfl
                have S := S.drop1.drop1
                exact ⟨[], most, pA, pc_, pB, pd, none, 0, most, E.keeps [(0, _), (5, _), (7, _), (8, _), (11, _), (48, _), (49, _), (50, _)] ⟨rfl, rfl, rfl, rfl, rfl, rfl, rfl, rfl, trivial⟩, S, by simp, by simp; omega, hm0, if_neg (by simp; omega)⟩
              · skip
                refine Run.eqi rfl E rfl rfl rfl rfl (decide_eq_false (by omega)) ?_; clear E a; intro a E
                refine Run.assign rfl E rfl rfl rfl ?_; clear E a; intro a E
                refine Run.nil ?_
                refine then_n ?_
                refine cond_F E rfl ?_
                refine wp_skip ?_
                refine blk_n ?_
                refine then_n ?_
                have S : St _ _ _ [_, _, _, _, _] := S.sel [0, 1, 2, 3, 4] _ rfl rfl
                have S := S.drop1
                exact ⟨l, most, pA, pc_, pB, pd, lA, lc, most, E.keeps [(0, _), (5, _), (7, _), (8, _), (11, _), (48, _), (49, _), (50, _)] ⟨rfl, rfl, rfl, rfl, rfl, rfl, rfl, rfl, trivial⟩, S, by omega, hlm, hm0, if_neg (by omega)⟩
      clear E a S
      rintro a w ⟨l', most', pA, pc_, pB, pd, lA', lc', lm, E, S, hl1, hl2, hl3, hl4⟩
      refine wp_seq ?_
      refine region_plain (n := 5) [(0, .p), (1, .p), (2, .p), (3, .p), (4, .p)] rfl rfl ?_
      refine Run.move rfl E rfl rfl rfl ?_; clear E a; intro a E
      refine Run.move rfl E rfl rfl rfl ?_; clear E a; intro a E
      refine Run.len rfl E rfl rfl rfl Try.underlying38 ?_; clear E a; intro a E
      refine Run.max rfl E rfl rfl rfl rfl (q := most') (hl4) ?_; clear E a; intro a E
      refine Run.assign rfl E rfl rfl rfl ?_; clear E a; intro a E
      refine Run.nil ?_
      refine then_n ?_
      refine wp_seq ?_
      refine region_plain (n := 8) [(0, .p), (1, .e), (2, .p), (3, .p), (4, .p), (5, .e), (6, .l), (7, .p)] rfl rfl ?_
      refine Run.move rfl E rfl rfl rfl ?_; clear E a; intro a E
      refine Run.call (args := [.pointer (some ⟨g1, 0, none⟩)]) rfl rfl E rfl rfl Try.func32 nm32 rfl rfl (top_any (St.holdsL (A := (Pile g1 pA pc_ pB pd limit (most') (l') (barIdx l'))) (R := [_]) (S.sel [0, 1, 2, 3] ((Pile g1 pA pc_ pB pd limit (most') (l') (barIdx l')) ++ [_]) rfl rfl)) (by omega)) ?_; rintro e_ w ⟨rfl, B_⟩; refine ⟨_, rfl, fun _ => B_, ?_⟩; clear E a; replace S := S.bel B_; intro a E
      clear B_
      refine Run.move rfl E rfl rfl rfl ?_; clear E a; intro a E
      refine Run.extract rfl E rfl rfl rfl rfl ?_; clear E a; intro a E
      refine Run.extract rfl E rfl rfl rfl rfl ?_; clear E a; intro a E
      refine Run.alloc rfl rfl E S rfl rfl z43 rfl ?_; clear E a S; intro b12 w a E S B_; clear B_
      refine Run.store (news := [.bool ((lastE (l')).bar), .int .i64 ((lastE (l')).pc), .int .i64 ((lastE (l')).pos), .int .i64 ((lastE (l')).mark), .int .i64 ((lastE (l')).org), .int .i64 ((lastE (l')).val)]) (cs' := [_, _, _, _, _, _]) (hp' := [_, _, _, _, _]) 0 rfl E S rfl rfl rfl rfl rfl sz43 rfl rfl rfl rfl ?_; clear S; intro w S
      refine Run.assign rfl E rfl rfl rfl ?_; clear E a; intro a E
      refine Run.nil ?_
      refine then_n ?_
      refine wp_seq ?_
      refine region_plain (n := 8) [(0, .p), (1, .e), (2, .p), (3, .p), (4, .p), (5, .e), (6, .l), (7, .p)] rfl rfl ?_
      refine Run.move rfl E rfl rfl rfl ?_; clear E a; intro a E
      refine Run.call (args := [.pointer (some ⟨g1, 0, none⟩)]) rfl rfl E rfl rfl Try.func34 nm34 rfl rfl (bar_any (St.holdsL (A := (Pile g1 pA pc_ pB pd limit (most') (l') (barIdx l'))) (R := [_, _]) (S.sel [1, 2, 3, 0, 4] ((Pile g1 pA pc_ pB pd limit (most') (l') (barIdx l')) ++ [_, _]) rfl rfl)) (by omega)) ?_; rintro e_ w ⟨rfl, B_⟩; refine ⟨_, rfl, fun _ => B_, ?_⟩; clear E a; replace S := S.bel B_; intro a E
      clear B_
      refine Run.move rfl E rfl rfl rfl ?_; clear E a; intro a E
      refine Run.extract rfl E rfl rfl rfl rfl ?_; clear E a; intro a E
      refine Run.extract rfl E rfl rfl rfl rfl ?_; clear E a; intro a E
      refine Run.alloc rfl rfl E S rfl rfl z43 rfl ?_; clear E a S; intro b13 w a E S B_; clear B_
      refine Run.store (news := [.bool ((barE (l')).bar), .int .i64 ((barE (l')).pc), .int .i64 ((barE (l')).pos), .int .i64 ((barE (l')).mark), .int .i64 ((barE (l')).org), .int .i64 ((barE (l')).val)]) (cs' := [_, _, _, _, _, _]) (hp' := [_, _, _, _, _, _]) 0 rfl E S rfl rfl rfl rfl rfl sz43 rfl rfl rfl rfl ?_; clear S; intro w S
      refine Run.assign rfl E rfl rfl rfl ?_; clear E a; intro a E
      refine Run.nil ?_
      refine then_n ?_
      refine wp_seq ?_
      refine region_plain (n := 3) [(0, .p), (1, .e), (2, .p)] rfl rfl ?_
      refine Run.move rfl E rfl rfl rfl ?_; clear E a; intro a E
      refine Run.call (args := [.slice (lA') (l'.length) (lc')]) rfl rfl E rfl rfl Try.func33 nm33 rfl rfl (law_bar (S.rd 5 rfl) (by omega)) ?_; rintro e_ w ⟨rfl, B_⟩; refine ⟨_, rfl, fun _ => B_, ?_⟩; clear E a; replace S := S.bel B_; intro a E
      clear B_
      refine Run.assign rfl E rfl rfl rfl ?_; clear E a; intro a E
      refine Run.nil ?_
      refine then_n ?_
      refine wp_seq ?_
      by_cases hat : 0 ≤ barAt l'
      · skip
        have hbl := barAt_lt l' hat
        obtain ⟨bL, rfl⟩ := S.rowAddr 5 rfl (by omega)
        replace E := E.setb 19 rfl (decide_eq_true hat)
        refine region_drawS (n := 50) [(0, .p), (2, .p), (3, .p), (1, .e), (4, .p), (5, .p), (6, .p), (8, .p), (7, .e), (9, .p), (10, .p), (11, .p), (13, .p), (12, .t), (14, .e), (15, .p), (16, .p), (17, .p), (18, .p), (19, .p), (20, .p), (21, .p), (22, .p), (23, .p), (24, .p), (25, .p), (26, .p), (27, .p), (28, .p), (29, .p), (30, .p), (31, .p), (32, .p), (34, .p), (35, .p), (36, .p), (33, .t), (37, .t), (38, .p), (39, .p), (40, .p), (41, .p), (42, .p), (43, .p), (44, .p), (45, .p), (46, .p), (47, .p), (48, .p), (49, .p)] [0, 1, 0, 4, 15, 31, 63, 127, 63, 511, 1023, 2047, 4095, 4095, 12287, 32767, 65535, 131071, 262143, 262143, 786431, 1835007, 4194303, 8388607, 16777215, 33554431, 33554431, 100663295, 268435455, 536870911, 1073741823, 2147483647, 4294967295, 8589934591, 8589934591, 8589934591, 60129542143, 128849018879, 274877906943, 549755813887, 1099511627775, 2199023255551, 4398046511103, 8796093022207, 17592186044415, 35184372088831, 35184372088831, 140737488355327, 281474976710655, 562949953421311] S mixed rfl rfl (by kernel_rfl) (fun _ _ _ _ _ h => h) ?_; clear S; intro w S B_; clear B_
        refine Run.move rfl E rfl rfl rfl ?_; clear E a; intro a E
        refine Run.move rfl E rfl rfl rfl ?_; clear E a; intro a E
        refine Run.len rfl E rfl rfl rfl Try.underlying38 ?_; clear E a; intro a E
        refine Run.call (args := [.pointer (some ⟨g1, 0, none⟩)]) rfl rfl E rfl rfl Try.func35 nm35 rfl rfl (pile_len (St.holdsL (A := (Pile g1 pA pc_ pB pd limit (most') (l') (barIdx l'))) (R := [_, _, _]) (S.sel [2, 3, 4, 0, 1, 5] ((Pile g1 pA pc_ pB pd limit (most') (l') (barIdx l')) ++ [_, _, _]) rfl rfl))) ?_; rintro e_ w ⟨rfl, B_⟩; refine ⟨_, rfl, fun _ => B_, ?_⟩; clear E a; replace S := S.bel B_; intro a E
        clear B_
        refine Run.nei rfl E rfl rfl rfl rfl (decide_eq_false (by omega)) ?_; clear E a; intro a E
        refine Run.move rfl E rfl rfl rfl ?_; clear E a; intro a E
        refine Run.move rfl E rfl rfl rfl ?_; clear E a; intro a E
        refine Run.move rfl E rfl rfl rfl ?_; clear E a; intro a E
        refine Run.call (args := [.pointer (some ⟨g1, 0, none⟩)]) rfl rfl E rfl rfl Try.func46 nm46 rfl rfl (pile_most (St.holdsL (A := (Pile g1 pA pc_ pB pd limit (most') (l') (barIdx l'))) (R := [_, _, _]) (S.sel [2, 3, 4, 0, 1, 5] ((Pile g1 pA pc_ pB pd limit (most') (l') (barIdx l')) ++ [_, _, _]) rfl rfl))) ?_; rintro e_ w ⟨rfl, B_⟩; refine ⟨_, rfl, fun _ => B_, ?_⟩; clear E a; replace S := S.bel B_; intro a E
        clear B_
        refine Run.nei rfl E rfl rfl rfl rfl (decide_eq_false (by omega)) ?_; clear E a; intro a E
        refine Run.pickF rfl E rfl rfl rfl rfl ?_; clear E a; intro a E
        refine Run.move rfl E rfl rfl rfl ?_; clear E a; intro a E
        refine Run.move rfl E rfl rfl rfl ?_; clear E a; intro a E
        refine Run.loadN (cs := [.bool ((lastE (l')).bar), .int .i64 ((lastE (l')).pc), .int .i64 ((lastE (l')).pos), .int .i64 ((lastE (l')).mark), .int .i64 ((lastE (l')).org), .int .i64 ((lastE (l')).val)]) rfl rfl E S rfl rfl rfl ag43 rfl (fun _ s => objAll s 1 rfl) ?_; clear E a; intro a E
        refine Run.call (args := [.slice (some ⟨bL, 0, none⟩) (l'.length) (lc')]) rfl rfl E rfl rfl Try.func36 nm36 rfl rfl (law_last (S.rd 5 rfl) (by omega)) ?_; rintro e_ w ⟨rfl, B_⟩; refine ⟨_, rfl, fun _ => B_, ?_⟩; clear E a; replace S := S.bel B_; intro a E
        clear B_
        refine Run.bin (v := .bool false) rfl E rfl rfl rfl rfl (fun w => (run_ne43 _ _ (lastE l') (lastE l') w).trans (by rw [decide_eq_false (fun h => h (rfl))])) ?_; clear E a; intro a E
        refine Run.pickF rfl E rfl rfl rfl rfl ?_; clear E a; intro a E
        refine Run.move rfl E rfl rfl rfl ?_; clear E a; intro a E
        refine Run.move rfl E rfl rfl rfl ?_; clear E a; intro a E
        refine Run.move rfl E rfl rfl rfl ?_; clear E a; intro a E
        refine Run.len rfl E rfl rfl rfl Try.underlying38 ?_; clear E a; intro a E
        refine Run.gtr rfl E rfl rfl rfl rfl rfl ?_; clear E a; intro a E
        refine Run.neb (c := false) rfl E rfl rfl rfl rfl Try.underlying4 (by simp) ?_; clear E a; intro a E
        refine Run.pickF rfl E rfl rfl rfl rfl ?_; clear E a; intro a E
        refine Run.move rfl E rfl rfl rfl ?_; clear E a; intro a E
        refine Run.move rfl E rfl rfl rfl ?_; clear E a; intro a E
        refine Run.move rfl E rfl rfl rfl ?_; clear E a; intro a E
        refine Run.geq rfl E rfl rfl rfl rfl (decide_eq_true (hat)) ?_; clear E a; intro a E
        refine Run.neb (c := false) rfl E rfl rfl rfl rfl Try.underlying4 (by rfl) ?_; clear E a; intro a E
        refine Run.pickF rfl E rfl rfl rfl rfl ?_; clear E a; intro a E
        refine Run.move rfl E rfl rfl rfl ?_; clear E a; intro a E
        refine Run.move rfl E rfl rfl rfl ?_; clear E a; intro a E
        refine Run.move rfl E rfl rfl rfl ?_; clear E a; intro a E
        refine Run.move rfl E rfl rfl rfl ?_; clear E a; intro a E
        refine Run.move rfl E rfl rfl rfl ?_; clear E a; intro a E
        refine Run.indexAddr rfl E rfl rfl rfl rfl Try.underlying38 sz43 (⟨hat, hbl⟩) (ix_at (m' := (barAt l').toNat) (o := ((barAt l').toNat) * 6) (by omega) rfl) ?_; clear E a; intro a E
        refine Run.loadN (cs := [.bool ((barE (l')).bar), .int .i64 ((barE (l')).pc), .int .i64 ((barE (l')).pos), .int .i64 ((barE (l')).mark), .int .i64 ((barE (l')).org), .int .i64 ((barE (l')).val)]) rfl rfl E S rfl rfl rfl ag43 rfl (fun _ s => objAll s 0 rfl) ?_; clear E a; intro a E
        refine Run.loadN (cs := [.bool ((barE l').bar), .int .i64 ((barE l').pc), .int .i64 ((barE l').pos), .int .i64 ((barE l').mark), .int .i64 ((barE l').org), .int .i64 ((barE l').val)]) rfl rfl E S rfl rfl rfl ag43 rfl (fun _ s => rowAt s 5 _ _ rfl (ents_get (barE_at hat))) ?_; clear E a; intro a E
        refine Run.bin (v := .bool false) rfl E rfl rfl rfl rfl (fun w => (run_ne43 _ _ (barE l') (barE l') w).trans (by rw [decide_eq_false (fun h => h (rfl))])) ?_; clear E a; intro a E
        refine Run.pickT rfl E rfl rfl rfl rfl ?_; clear E a; intro a E
        refine Run.pickF rfl E rfl rfl rfl rfl ?_; clear E a; intro a E
        refine Run.move rfl E rfl rfl rfl ?_; clear E a; intro a E
        refine Run.move rfl E rfl rfl rfl ?_; clear E a; intro a E
        refine Run.not rfl E rfl rfl rfl rfl ?_; clear E a; intro a E
        refine Run.move rfl E rfl rfl rfl ?_; clear E a; intro a E
        refine Run.off rfl E rfl rfl ?_; clear E a; intro a E
        refine Run.off rfl E rfl rfl ?_; clear E a; intro a E
        refine Run.off rfl E rfl rfl ?_; clear E a; intro a E
        refine Run.pickF rfl E rfl rfl rfl rfl ?_; clear E a; intro a E
        refine Run.pickF rfl E rfl rfl rfl rfl ?_; clear E a; intro a E
        refine Run.nil ?_
        refine then_n ?_
        refine cond_F E rfl ?_
        refine wp_skip ?_
        refine blk_n ?_
        refine then_n ?_
        refine region_plain (n := 2) [(0, .p), (1, .p)] rfl rfl ?_
        refine Run.add rfl E rfl rfl rfl rfl (i64_ok (by omega)) ?_; clear E a; intro a E
        refine Run.move rfl E rfl rfl rfl ?_; clear E a; intro a E
        refine Run.nil ?_
        refine then_n ?_
        replace E := E.setv 50 rfl (show Value.int .i64 ((i : Int) + 1) = .int .i64 ((i + 1 : Nat) : Int) from rfl)
        have S : St _ _ _ [_, _, _, _, _, _] := S.sel [0, 1, 2, 3, 4, 5] _ rfl rfl
        have S := S.drop1.drop1
        exact ⟨_, (by omega), (i + 1), l', most', pA, pc_, pB, pd, (some ⟨bL, 0, none⟩), lc', rfl, E.keeps [(0, _), (5, _), (7, _), (8, _), (48, _), (49, _), (50, _)] ⟨rfl, rfl, rfl, rfl, rfl, rfl, rfl, trivial⟩, S, hlt, hl1, hl2, hl3⟩
      · skip
        have hbz := barAt_neg hat
        replace E := E.setb 19 rfl (decide_eq_false hat)
        have hbe := barE_none hbz
        refine region_drawS (n := 50) [(0, .p), (2, .p), (3, .p), (1, .e), (4, .p), (5, .p), (6, .p), (8, .p), (7, .e), (9, .p), (10, .p), (11, .p), (13, .p), (12, .t), (14, .e), (15, .p), (16, .p), (17, .p), (18, .p), (19, .p), (20, .p), (21, .p), (22, .p), (23, .p), (24, .p), (25, .p), (26, .p), (27, .p), (28, .p), (29, .p), (30, .p), (31, .p), (32, .p), (33, .p), (34, .p), (35, .p), (36, .p), (37, .p), (38, .p), (39, .p), (40, .p), (41, .p), (42, .p), (43, .p), (44, .p), (46, .p), (45, .t), (47, .p), (48, .p), (49, .p)] [0, 1, 0, 4, 15, 31, 63, 127, 63, 511, 1023, 2047, 4095, 4095, 12287, 32767, 65535, 131071, 262143, 262143, 786431, 1835007, 4194303, 8388607, 16777215, 33554431, 33554431, 100663295, 268435455, 536870911, 1073741823, 2147483647, 4294967295, 8589934591, 8589934591, 8589934591, 60129542143, 128849018879, 274877906943, 549755813887, 1099511627775, 2199023255551, 4398046511103, 8796093022207, 17592186044415, 35184372088831, 35184372088831, 140737488355327, 281474976710655, 562949953421311] S mixed rfl rfl (by kernel_rfl) (fun _ _ _ _ _ h => h) ?_; clear S; intro w S B_; clear B_
        refine Run.move rfl E rfl rfl rfl ?_; clear E a; intro a E
        refine Run.move rfl E rfl rfl rfl ?_; clear E a; intro a E
        refine Run.len rfl E rfl rfl rfl Try.underlying38 ?_; clear E a; intro a E
        refine Run.call (args := [.pointer (some ⟨g1, 0, none⟩)]) rfl rfl E rfl rfl Try.func35 nm35 rfl rfl (pile_len (St.holdsL (A := (Pile g1 pA pc_ pB pd limit (most') (l') (barIdx l'))) (R := [_, _, _]) (S.sel [2, 3, 4, 0, 1, 5] ((Pile g1 pA pc_ pB pd limit (most') (l') (barIdx l')) ++ [_, _, _]) rfl rfl))) ?_; rintro e_ w ⟨rfl, B_⟩; refine ⟨_, rfl, fun _ => B_, ?_⟩; clear E a; replace S := S.bel B_; intro a E
        clear B_
        refine Run.nei rfl E rfl rfl rfl rfl (decide_eq_false (by omega)) ?_; clear E a; intro a E
        refine Run.move rfl E rfl rfl rfl ?_; clear E a; intro a E
        refine Run.move rfl E rfl rfl rfl ?_; clear E a; intro a E
        refine Run.move rfl E rfl rfl rfl ?_; clear E a; intro a E
        refine Run.call (args := [.pointer (some ⟨g1, 0, none⟩)]) rfl rfl E rfl rfl Try.func46 nm46 rfl rfl (pile_most (St.holdsL (A := (Pile g1 pA pc_ pB pd limit (most') (l') (barIdx l'))) (R := [_, _, _]) (S.sel [2, 3, 4, 0, 1, 5] ((Pile g1 pA pc_ pB pd limit (most') (l') (barIdx l')) ++ [_, _, _]) rfl rfl))) ?_; rintro e_ w ⟨rfl, B_⟩; refine ⟨_, rfl, fun _ => B_, ?_⟩; clear E a; replace S := S.bel B_; intro a E
        clear B_
        refine Run.nei rfl E rfl rfl rfl rfl (decide_eq_false (by omega)) ?_; clear E a; intro a E
        refine Run.pickF rfl E rfl rfl rfl rfl ?_; clear E a; intro a E
        refine Run.move rfl E rfl rfl rfl ?_; clear E a; intro a E
        refine Run.move rfl E rfl rfl rfl ?_; clear E a; intro a E
        refine Run.loadN (cs := [.bool ((lastE (l')).bar), .int .i64 ((lastE (l')).pc), .int .i64 ((lastE (l')).pos), .int .i64 ((lastE (l')).mark), .int .i64 ((lastE (l')).org), .int .i64 ((lastE (l')).val)]) rfl rfl E S rfl rfl rfl ag43 rfl (fun _ s => objAll s 1 rfl) ?_; clear E a; intro a E
        refine Run.call (args := [.slice (lA') (l'.length) (lc')]) rfl rfl E rfl rfl Try.func36 nm36 rfl rfl (law_last (S.rd 5 rfl) (by omega)) ?_; rintro e_ w ⟨rfl, B_⟩; refine ⟨_, rfl, fun _ => B_, ?_⟩; clear E a; replace S := S.bel B_; intro a E
        clear B_
        refine Run.bin (v := .bool false) rfl E rfl rfl rfl rfl (fun w => (run_ne43 _ _ (lastE l') (lastE l') w).trans (by rw [decide_eq_false (fun h => h (rfl))])) ?_; clear E a; intro a E
        refine Run.pickF rfl E rfl rfl rfl rfl ?_; clear E a; intro a E
        refine Run.move rfl E rfl rfl rfl ?_; clear E a; intro a E
        refine Run.move rfl E rfl rfl rfl ?_; clear E a; intro a E
        refine Run.move rfl E rfl rfl rfl ?_; clear E a; intro a E
        refine Run.len rfl E rfl rfl rfl Try.underlying38 ?_; clear E a; intro a E
        refine Run.gtr rfl E rfl rfl rfl rfl rfl ?_; clear E a; intro a E
        refine Run.neb (c := false) rfl E rfl rfl rfl rfl Try.underlying4 (by simp) ?_; clear E a; intro a E
        refine Run.pickF rfl E rfl rfl rfl rfl ?_; clear E a; intro a E
        refine Run.move rfl E rfl rfl rfl ?_; clear E a; intro a E
        refine Run.move rfl E rfl rfl rfl ?_; clear E a; intro a E
        refine Run.move rfl E rfl rfl rfl ?_; clear E a; intro a E
        refine Run.geq rfl E rfl rfl rfl rfl (decide_eq_false (hat)) ?_; clear E a; intro a E
        refine Run.neb (c := false) rfl E rfl rfl rfl rfl Try.underlying4 (by rfl) ?_; clear E a; intro a E
        refine Run.pickF rfl E rfl rfl rfl rfl ?_; clear E a; intro a E
        refine Run.move rfl E rfl rfl rfl ?_; clear E a; intro a E
        refine Run.move rfl E rfl rfl rfl ?_; clear E a; intro a E
        refine Run.move rfl E rfl rfl rfl ?_; clear E a; intro a E
        refine Run.off rfl E rfl rfl ?_; clear E a; intro a E
        refine Run.off rfl E rfl rfl ?_; clear E a; intro a E
        refine Run.off rfl E rfl rfl ?_; clear E a; intro a E
        refine Run.off rfl E rfl rfl ?_; clear E a; intro a E
        refine Run.off rfl E rfl rfl ?_; clear E a; intro a E
        refine Run.off rfl E rfl rfl ?_; clear E a; intro a E
        refine Run.pickF rfl E rfl rfl rfl rfl ?_; clear E a; intro a E
        refine Run.pickF rfl E rfl rfl rfl rfl ?_; clear E a; intro a E
        refine Run.move rfl E rfl rfl rfl ?_; clear E a; intro a E
        refine Run.move rfl E rfl rfl rfl ?_; clear E a; intro a E
        refine Run.not rfl E rfl rfl rfl rfl ?_; clear E a; intro a E
        refine Run.move rfl E rfl rfl rfl ?_; clear E a; intro a E
        refine Run.build (cs := #[.bool false, .int .i64 0, .int .i64 0, .int .i64 0, .int .i64 0, .int .i64 0]) [] rfl E rfl rfl rfl rfl ?_; clear E a; intro a E
        refine Run.loadN (cs := [.bool ((barE (l')).bar), .int .i64 ((barE (l')).pc), .int .i64 ((barE (l')).pos), .int .i64 ((barE (l')).mark), .int .i64 ((barE (l')).org), .int .i64 ((barE (l')).val)]) rfl rfl E S rfl rfl rfl ag43 rfl (fun _ s => objAll s 0 rfl) ?_; clear E a; intro a E
        refine Run.bin (v := .bool false) rfl E rfl rfl rfl rfl (fun w => (run_ne43 _ _ (barE l') Ent.none w).trans (by rw [barE_none hbz, decide_eq_false (fun h => h rfl)])) ?_; clear E a; intro a E
        refine Run.pickT rfl E rfl rfl rfl rfl ?_; clear E a; intro a E
        refine Run.pickF rfl E rfl rfl rfl rfl ?_; clear E a; intro a E
        refine Run.nil ?_
        refine then_n ?_
        refine cond_F E rfl ?_
        refine wp_skip ?_
        refine blk_n ?_
        refine then_n ?_
        refine region_plain (n := 2) [(0, .p), (1, .p)] rfl rfl ?_
        refine Run.add rfl E rfl rfl rfl rfl (i64_ok (by omega)) ?_; clear E a; intro a E
        refine Run.move rfl E rfl rfl rfl ?_; clear E a; intro a E
        refine Run.nil ?_
        refine then_n ?_
        replace E := E.setv 50 rfl (show Value.int .i64 ((i : Int) + 1) = .int .i64 ((i + 1 : Nat) : Int) from rfl)
        have S : St _ _ _ [_, _, _, _, _, _] := S.sel [0, 1, 2, 3, 4, 5] _ rfl rfl
        have S := S.drop1.drop1
        exact ⟨_, (by omega), (i + 1), l', most', pA, pc_, pB, pd, lA', lc', rfl, E.keeps [(0, _), (5, _), (7, _), (8, _), (48, _), (49, _), (50, _)] ⟨rfl, rfl, rfl, rfl, rfl, rfl, rfl, trivial⟩, S, hlt, hl1, hl2, hl3⟩
    · skip
      refine Run.lss rfl E rfl rfl rfl rfl (decide_eq_false (by omega)) ?_; clear E a; intro a E
      refine Run.nil ?_
      refine then_n ?_
      refine wp_seq ?_
      refine cond_F E rfl ?_
      refine wp_exit ?_
      refine then_x ?_
      refine then_x ?_
      refine blk_x ?_
      refine then_n ?_
      refine wp_seq ?_
      refine region_plain (n := 1) [(0, .p)] rfl rfl ?_
      refine Run.assign rfl E rfl rfl rfl ?_; clear E a; intro a E
      refine Run.nil ?_
      refine then_n ?_
      refine wp_ret ?_
      exact ret1 E Try.results8 rfl ⟨rfl, S.belT⟩

theorem pilePlays_walk {A : Option Addr} {c : Nat} {ops : List POp} {limit : Int} (H1 : Rd w0 A ops.length 7 (pops ops)) : Calls Try.prog 8 [.int .i64 limit, .slice A ops.length c].toArray w0 (fun r w' => r = .returned (.bool true) ∧ Bel w0 w') := by
  rcases Int.lt_or_le limit 0 with h | h0
  · exact plays_low H1 h
  · rcases Int.lt_or_le 65536 limit with h | h1
    · exact plays_high H1 h
    · exact plays_mid H1 h0 h1

end
end Go.Proofs.Ytlcglefbhlhcpaa.K
