/- Walks of the functions that the law EventRight reaches: laid by a program out of the translation, some blocks by hand. Conditions: what each Lean function comes to. -/
import Derived.Test.YtecfnbnngdpfiaaRightx0
import Derived.Test.YtecfnbnngdpfiaaRightx1
import Derived.Test.YtecfnbnngdpfiaaRightx2
namespace Go.Proofs.Ytecfnbnngdpfiaa.PEventRight
open Go.RowKit Go.Proofs.YtecfnbnngdpfiaaW.PrintWords Go.Proofs.YtecfnbnngdpfiaaW.PrintLast Go.Proofs.YtecfnbnngdpfiaaW.PrintMore
attribute [local go_sem] max2_int min2_int max_two min_two max_three min_three max_four min_four   -- for this text's walks alone
set_option linter.unusedVariables false
set_option linter.unusedSimpArgs false

/-! ### clewlaw14_EventRight: function 6 -/
mutual
def clewlaw14_EventRight.j0 : Nat → Int → Bool → Int → Int → Int → Int → Int → Int → Int → List Int → Option (Bool)
  | 0, _, _, _, _, _, _, _, _, _, _ => none
  | k + 1, x1, x5, x133000, x133001, x133002, x133003, x133004, x133005, x133006, x133007 => if x5 = true then (clewlaw14_EventRight.j1 k x1 ((x133007.length : Int) == (wrap64 ((wrap64 (2 * x1)) + 2))) x133000 x133001 x133002 x133003 x133004 x133005 x133006 x133007) else (clewlaw14_EventRight.j1 k x1 false x133000 x133001 x133002 x133003 x133004 x133005 x133006 x133007)
def clewlaw14_EventRight.j1 : Nat → Int → Bool → Int → Int → Int → Int → Int → Int → Int → List Int → Option (Bool)
  | 0, _, _, _, _, _, _, _, _, _, _ => none
  | k + 1, x1, x5, x133000, x133001, x133002, x133003, x133004, x133005, x133006, x133007 => clewlaw14_EventRight.l0 k x1 x5 x133007 (x133007.length : Int) 0 x133000 x133001 x133002 x133003 x133004 x133005 x133006 x133007
def clewlaw14_EventRight.l0 : Nat → Int → Bool → List Int → Int → Int → Int → Int → Int → Int → Int → Int → Int → List Int → Option (Bool)
  | 0, _, _, _, _, _, _, _, _, _, _, _, _, _ => none
  | k + 1, x1, x5, x58, x59, x60, x133000, x133001, x133002, x133003, x133004, x133005, x133006, x133007 => if x60 < x59 then (if 0 ≤ x60 then (if x60 < (x58.length : Int) then (if x5 = true then ((clewlaw14_within.f (rd x58 x60) (-1) 65536).bind fun t143 => (clewlaw14_EventRight.l0 k x1 t143 x58 x59 (wrap64 (x60 + 1)) x133000 x133001 x133002 x133003 x133004 x133005 x133006 x133007)) else (clewlaw14_EventRight.l0 k x1 false x58 x59 (wrap64 (x60 + 1)) x133000 x133001 x133002 x133003 x133004 x133005 x133006 x133007)) else (none)) else (none)) else ((event_State_Right.f k x133000 x133001 x133002 x133003 x133004 x133005 x133006 x133007 x1).bind fun t144 => (some (t144 == x5)))
end
def clewlaw14_EventRight.f (k : Nat) (a0_0 : Int) (a0_1 : Int) (a0_2 : Int) (a0_3 : Int) (a0_4 : Int) (a0_5 : Int) (a0_6 : Int) (l0_7 : List Int) (a1 : Int) : Option (Bool) := (clewlaw14_anchor.f k).bind fun t133 => (if t133 = true then ((clewlaw14_within.f a1 0 99).bind fun t134 => (if t134 = true then ((clewlaw14_within.f a0_0 1 14).bind fun t135 => (if t135 = true then ((clewlaw14_within.f a0_1 0 16384).bind fun t136 => (if t136 = true then ((clewlaw14_within.f a0_2 0 16384).bind fun t137 => (if t137 = true then ((clewlaw14_within.f a0_3 0 65536).bind fun t138 => (if t138 = true then ((clewlaw14_within.f a0_4 0 65536).bind fun t139 => (if t139 = true then ((clewlaw14_within.f a0_5 0 65536).bind fun t140 => (if t140 = true then ((clewlaw14_within.f a0_6 (-1) 1048576).bind fun t141 => (clewlaw14_EventRight.j0 k a1 t141 a0_0 a0_1 a0_2 a0_3 a0_4 a0_5 a0_6 l0_7)) else (clewlaw14_EventRight.j0 k a1 false a0_0 a0_1 a0_2 a0_3 a0_4 a0_5 a0_6 l0_7))) else (clewlaw14_EventRight.j0 k a1 false a0_0 a0_1 a0_2 a0_3 a0_4 a0_5 a0_6 l0_7))) else (clewlaw14_EventRight.j0 k a1 false a0_0 a0_1 a0_2 a0_3 a0_4 a0_5 a0_6 l0_7))) else (clewlaw14_EventRight.j0 k a1 false a0_0 a0_1 a0_2 a0_3 a0_4 a0_5 a0_6 l0_7))) else (clewlaw14_EventRight.j0 k a1 false a0_0 a0_1 a0_2 a0_3 a0_4 a0_5 a0_6 l0_7))) else (clewlaw14_EventRight.j0 k a1 false a0_0 a0_1 a0_2 a0_3 a0_4 a0_5 a0_6 l0_7))) else (clewlaw14_EventRight.j0 k a1 false a0_0 a0_1 a0_2 a0_3 a0_4 a0_5 a0_6 l0_7))) else (some false))
theorem clewlaw14_EventRight.mono_l : ∀ k, (∀ y0 y1 y2 y3 y4 y5 y6 y7 y8 y9, LeO (clewlaw14_EventRight.j0 k y0 y1 y2 y3 y4 y5 y6 y7 y8 y9) (clewlaw14_EventRight.j0 (k + 1) y0 y1 y2 y3 y4 y5 y6 y7 y8 y9)) ∧ (∀ y0 y1 y2 y3 y4 y5 y6 y7 y8 y9, LeO (clewlaw14_EventRight.j1 k y0 y1 y2 y3 y4 y5 y6 y7 y8 y9) (clewlaw14_EventRight.j1 (k + 1) y0 y1 y2 y3 y4 y5 y6 y7 y8 y9)) ∧ (∀ y0 y1 y2 y3 y4 y5 y6 y7 y8 y9 y10 y11 y12, LeO (clewlaw14_EventRight.l0 k y0 y1 y2 y3 y4 y5 y6 y7 y8 y9 y10 y11 y12) (clewlaw14_EventRight.l0 (k + 1) y0 y1 y2 y3 y4 y5 y6 y7 y8 y9 y10 y11 y12))
  | 0 => ⟨fun _ _ _ _ _ _ _ _ _ _ r h => by simp [clewlaw14_EventRight.j0] at h, fun _ _ _ _ _ _ _ _ _ _ r h => by simp [clewlaw14_EventRight.j1] at h, fun _ _ _ _ _ _ _ _ _ _ _ _ _ r h => by simp [clewlaw14_EventRight.l0] at h⟩
  | k + 1 => by
    obtain ⟨ih0, ih1, ih2⟩ := clewlaw14_EventRight.mono_l k
    refine ⟨?_, ?_, ?_⟩
    · intro y0 y1 y2 y3 y4 y5 y6 y7 y8 y9
      unfold clewlaw14_EventRight.j0
      repeat' first
      | (with_reducible exact ih0 _ _ _ _ _ _ _ _ _ _)
      | (with_reducible exact ih1 _ _ _ _ _ _ _ _ _ _)
      | (with_reducible exact ih2 _ _ _ _ _ _ _ _ _ _ _ _ _)
      | (with_reducible exact clewlaw14_anchor.mono _)
      | (with_reducible exact event_State_Right.mono _ _ _ _ _ _ _ _ _ _)
      | (with_reducible exact LeO.refl _)
      | (with_reducible exact LeO.none _)
      | (with_reducible refine LeO.ite ?_ ?_)
      | (with_reducible refine LeO.bind ?_ (fun _ => ?_))
      | exact ih0 _ _ _ _ _ _ _ _ _ _
      | exact ih1 _ _ _ _ _ _ _ _ _ _
      | exact ih2 _ _ _ _ _ _ _ _ _ _ _ _ _
      | exact clewlaw14_anchor.mono _
      | exact event_State_Right.mono _ _ _ _ _ _ _ _ _ _
      | exact LeO.none _
      | refine LeO.ite ?_ ?_
      | refine LeO.bind ?_ (fun _ => ?_)
    · intro y0 y1 y2 y3 y4 y5 y6 y7 y8 y9
      unfold clewlaw14_EventRight.j1
      repeat' first
      | (with_reducible exact ih0 _ _ _ _ _ _ _ _ _ _)
      | (with_reducible exact ih1 _ _ _ _ _ _ _ _ _ _)
      | (with_reducible exact ih2 _ _ _ _ _ _ _ _ _ _ _ _ _)
      | (with_reducible exact clewlaw14_anchor.mono _)
      | (with_reducible exact event_State_Right.mono _ _ _ _ _ _ _ _ _ _)
      | (with_reducible exact LeO.refl _)
      | (with_reducible exact LeO.none _)
      | (with_reducible refine LeO.ite ?_ ?_)
      | (with_reducible refine LeO.bind ?_ (fun _ => ?_))
      | exact ih0 _ _ _ _ _ _ _ _ _ _
      | exact ih1 _ _ _ _ _ _ _ _ _ _
      | exact ih2 _ _ _ _ _ _ _ _ _ _ _ _ _
      | exact clewlaw14_anchor.mono _
      | exact event_State_Right.mono _ _ _ _ _ _ _ _ _ _
      | exact LeO.none _
      | refine LeO.ite ?_ ?_
      | refine LeO.bind ?_ (fun _ => ?_)
    · intro y0 y1 y2 y3 y4 y5 y6 y7 y8 y9 y10 y11 y12
      unfold clewlaw14_EventRight.l0
      repeat' first
      | (with_reducible exact ih0 _ _ _ _ _ _ _ _ _ _)
      | (with_reducible exact ih1 _ _ _ _ _ _ _ _ _ _)
      | (with_reducible exact ih2 _ _ _ _ _ _ _ _ _ _ _ _ _)
      | (with_reducible exact clewlaw14_anchor.mono _)
      | (with_reducible exact event_State_Right.mono _ _ _ _ _ _ _ _ _ _)
      | (with_reducible exact LeO.refl _)
      | (with_reducible exact LeO.none _)
      | (with_reducible refine LeO.ite ?_ ?_)
      | (with_reducible refine LeO.bind ?_ (fun _ => ?_))
      | exact ih0 _ _ _ _ _ _ _ _ _ _
      | exact ih1 _ _ _ _ _ _ _ _ _ _
      | exact ih2 _ _ _ _ _ _ _ _ _ _ _ _ _
      | exact clewlaw14_anchor.mono _
      | exact event_State_Right.mono _ _ _ _ _ _ _ _ _ _
      | exact LeO.none _
      | refine LeO.ite ?_ ?_
      | refine LeO.bind ?_ (fun _ => ?_)
theorem clewlaw14_EventRight.mono : ∀ a0 a1 a2 a3 a4 a5 a6 a7 a8 k, LeO (clewlaw14_EventRight.f k a0 a1 a2 a3 a4 a5 a6 a7 a8) (clewlaw14_EventRight.f (k + 1) a0 a1 a2 a3 a4 a5 a6 a7 a8) := by
  intro a0 a1 a2 a3 a4 a5 a6 a7 a8 k
  obtain ⟨ih0, ih1, ih2⟩ := clewlaw14_EventRight.mono_l k
  unfold clewlaw14_EventRight.f
  repeat' first
      | (with_reducible exact ih0 _ _ _ _ _ _ _ _ _ _)
      | (with_reducible exact ih1 _ _ _ _ _ _ _ _ _ _)
      | (with_reducible exact ih2 _ _ _ _ _ _ _ _ _ _ _ _ _)
      | (with_reducible exact clewlaw14_anchor.mono _)
      | (with_reducible exact event_State_Right.mono _ _ _ _ _ _ _ _ _ _)
      | (with_reducible exact LeO.refl _)
      | (with_reducible exact LeO.none _)
      | (with_reducible refine LeO.ite ?_ ?_)
      | (with_reducible refine LeO.bind ?_ (fun _ => ?_))
      | exact ih0 _ _ _ _ _ _ _ _ _ _
      | exact ih1 _ _ _ _ _ _ _ _ _ _
      | exact ih2 _ _ _ _ _ _ _ _ _ _ _ _ _
      | exact clewlaw14_anchor.mono _
      | exact event_State_Right.mono _ _ _ _ _ _ _ _ _ _
      | exact LeO.none _
      | refine LeO.ite ?_ ?_
      | refine LeO.bind ?_ (fun _ => ?_)
set_option maxHeartbeats 8000000 in
set_option maxRecDepth 100000 in
theorem clewlaw14_EventRight.calls (k : Nat) (a0_0 : Int) (a0_1 : Int) (a0_2 : Int) (a0_3 : Int) (a0_4 : Int) (a0_5 : Int) (a0_6 : Int) (A0_7 : Option Addr) (c0_7 : Nat) (l0_7 : List Int) (a1 : Int) (r : Bool) (w : World) (hr0_7 : Kd.C (Kd.int .i64) w A0_7 l0_7.length l0_7) (hc0_7 : l0_7.length ≤ c0_7) (h : clewlaw14_EventRight.f k a0_0 a0_1 a0_2 a0_3 a0_4 a0_5 a0_6 l0_7 a1 = some r) :
    Calls Try.prog 6 #[.agg #[.int .i64 a0_0, .int .i64 a0_1, .int .i64 a0_2, .int .i64 a0_3, .int .i64 a0_4, .int .i64 a0_5, .int .i64 a0_6, .slice A0_7 l0_7.length c0_7], .int .i64 a1] w fun e w' => e = .returned (.bool r) ∧ Below w.heap.size w w' := by
  have hu33 := Try.underlying33
  have HR0_7 := Aside0.mk hr0_7
  have HC0_7 := Aside0.mk hc0_7
  clear hr0_7 hc0_7
  have HB := Aside0.mk (Below.refl w.heap.size w)
  have H : ((clewlaw14_anchor.f k).bind fun t133 => (if t133 = true then ((clewlaw14_within.f a1 0 99).bind fun t134 => (if t134 = true then ((clewlaw14_within.f a0_0 1 14).bind fun t135 => (if t135 = true then ((clewlaw14_within.f a0_1 0 16384).bind fun t136 => (if t136 = true then ((clewlaw14_within.f a0_2 0 16384).bind fun t137 => (if t137 = true then ((clewlaw14_within.f a0_3 0 65536).bind fun t138 => (if t138 = true then ((clewlaw14_within.f a0_4 0 65536).bind fun t139 => (if t139 = true then ((clewlaw14_within.f a0_5 0 65536).bind fun t140 => (if t140 = true then ((clewlaw14_within.f a0_6 (-1) 1048576).bind fun t141 => (clewlaw14_EventRight.j0 k a1 t141 a0_0 a0_1 a0_2 a0_3 a0_4 a0_5 a0_6 l0_7)) else (clewlaw14_EventRight.j0 k a1 false a0_0 a0_1 a0_2 a0_3 a0_4 a0_5 a0_6 l0_7))) else (clewlaw14_EventRight.j0 k a1 false a0_0 a0_1 a0_2 a0_3 a0_4 a0_5 a0_6 l0_7))) else (clewlaw14_EventRight.j0 k a1 false a0_0 a0_1 a0_2 a0_3 a0_4 a0_5 a0_6 l0_7))) else (clewlaw14_EventRight.j0 k a1 false a0_0 a0_1 a0_2 a0_3 a0_4 a0_5 a0_6 l0_7))) else (clewlaw14_EventRight.j0 k a1 false a0_0 a0_1 a0_2 a0_3 a0_4 a0_5 a0_6 l0_7))) else (clewlaw14_EventRight.j0 k a1 false a0_0 a0_1 a0_2 a0_3 a0_4 a0_5 a0_6 l0_7))) else (clewlaw14_EventRight.j0 k a1 false a0_0 a0_1 a0_2 a0_3 a0_4 a0_5 a0_6 l0_7))) else (some false))) = some r := h
  clear h
  replace H := Option.bind_eq_some_iff.mp H
  obtain ⟨t133, A30, H⟩ := H
  replace H : (if t133 = true then ((clewlaw14_within.f a1 0 99).bind fun t134 => (if t134 = true then ((clewlaw14_within.f a0_0 1 14).bind fun t135 => (if t135 = true then ((clewlaw14_within.f a0_1 0 16384).bind fun t136 => (if t136 = true then ((clewlaw14_within.f a0_2 0 16384).bind fun t137 => (if t137 = true then ((clewlaw14_within.f a0_3 0 65536).bind fun t138 => (if t138 = true then ((clewlaw14_within.f a0_4 0 65536).bind fun t139 => (if t139 = true then ((clewlaw14_within.f a0_5 0 65536).bind fun t140 => (if t140 = true then ((clewlaw14_within.f a0_6 (-1) 1048576).bind fun t141 => (clewlaw14_EventRight.j0 k a1 t141 a0_0 a0_1 a0_2 a0_3 a0_4 a0_5 a0_6 l0_7)) else (clewlaw14_EventRight.j0 k a1 false a0_0 a0_1 a0_2 a0_3 a0_4 a0_5 a0_6 l0_7))) else (clewlaw14_EventRight.j0 k a1 false a0_0 a0_1 a0_2 a0_3 a0_4 a0_5 a0_6 l0_7))) else (clewlaw14_EventRight.j0 k a1 false a0_0 a0_1 a0_2 a0_3 a0_4 a0_5 a0_6 l0_7))) else (clewlaw14_EventRight.j0 k a1 false a0_0 a0_1 a0_2 a0_3 a0_4 a0_5 a0_6 l0_7))) else (clewlaw14_EventRight.j0 k a1 false a0_0 a0_1 a0_2 a0_3 a0_4 a0_5 a0_6 l0_7))) else (clewlaw14_EventRight.j0 k a1 false a0_0 a0_1 a0_2 a0_3 a0_4 a0_5 a0_6 l0_7))) else (clewlaw14_EventRight.j0 k a1 false a0_0 a0_1 a0_2 a0_3 a0_4 a0_5 a0_6 l0_7))) else (some false)) = some r := H
  have A3 := Aside0.mk A30
  clear A30
  by_cases c4 : t133 = true
  · subst c4
    have H1 : ((clewlaw14_within.f a1 0 99).bind fun t134 => (if t134 = true then ((clewlaw14_within.f a0_0 1 14).bind fun t135 => (if t135 = true then ((clewlaw14_within.f a0_1 0 16384).bind fun t136 => (if t136 = true then ((clewlaw14_within.f a0_2 0 16384).bind fun t137 => (if t137 = true then ((clewlaw14_within.f a0_3 0 65536).bind fun t138 => (if t138 = true then ((clewlaw14_within.f a0_4 0 65536).bind fun t139 => (if t139 = true then ((clewlaw14_within.f a0_5 0 65536).bind fun t140 => (if t140 = true then ((clewlaw14_within.f a0_6 (-1) 1048576).bind fun t141 => (clewlaw14_EventRight.j0 k a1 t141 a0_0 a0_1 a0_2 a0_3 a0_4 a0_5 a0_6 l0_7)) else (clewlaw14_EventRight.j0 k a1 false a0_0 a0_1 a0_2 a0_3 a0_4 a0_5 a0_6 l0_7))) else (clewlaw14_EventRight.j0 k a1 false a0_0 a0_1 a0_2 a0_3 a0_4 a0_5 a0_6 l0_7))) else (clewlaw14_EventRight.j0 k a1 false a0_0 a0_1 a0_2 a0_3 a0_4 a0_5 a0_6 l0_7))) else (clewlaw14_EventRight.j0 k a1 false a0_0 a0_1 a0_2 a0_3 a0_4 a0_5 a0_6 l0_7))) else (clewlaw14_EventRight.j0 k a1 false a0_0 a0_1 a0_2 a0_3 a0_4 a0_5 a0_6 l0_7))) else (clewlaw14_EventRight.j0 k a1 false a0_0 a0_1 a0_2 a0_3 a0_4 a0_5 a0_6 l0_7))) else (clewlaw14_EventRight.j0 k a1 false a0_0 a0_1 a0_2 a0_3 a0_4 a0_5 a0_6 l0_7))) = some r := by rw [if_pos rfl] at H; exact H
    clear H
    have H := H1
    clear H1
    have HC5 := Aside0.mk H
    clear H
    go_enter Try.func6, Try.ntmps6
    go_upto_region 3 with (first | ((with_reducible refine gate_dst (N := 2) rfl ?_); (try (refine gate_guard (by rfl) ?_; dsimp only)); refine box_event ?hg (N := 2) ?hd (cs := #[.int .i64 a0_0, .int .i64 a0_1, .int .i64 a0_2, .int .i64 a0_3, .int .i64 a0_4, .int .i64 a0_5, .int .i64 a0_6, .slice A0_7 l0_7.length c0_7]) (t := 33) ?hr ?_; (case hd => rfl); (case hg => rfl); (case hr => first | (go_simp; done) | (go_simp; rfl)); intro gb132 hg w6 hbox hb; have n0_ := Aside0.mk (below_step (by repeat (first | (with_reducible first | exact HB.out | apply below_alloc | apply pw_below_drewN | apply below_drew1) | exact HB.out)) hb); have n1_ := Aside0.mk (hbox); have n2_ := Aside0.mk ((by rw [hg]; exact (below_size (by repeat (first | (with_reducible first | exact HB.out | apply below_alloc | apply pw_below_drewN | apply below_drew1) | exact HB.out))) : w.heap.size ≤ gb132)); have n3_ := Aside0.mk ((by rw [hg]; exact (below_size (by repeat (first | (with_reducible first | exact HB.out | apply below_alloc | apply pw_below_drewN | apply below_drew1) | exact HB.out))) : w.heap.size ≤ gb132)); clear HB; have HB := n0_; have BK132 := n1_; have GW132 := n2_; have GE132 := n3_; clear n0_ n1_ n2_ n3_; clear hb hbox hg) | ((with_reducible refine gate_callee (f := 21) rfl ?_); refine goesL_ (some 8) rfl rfl Try.func21 (by kernel_rfl) rfl #[] rfl (by (try simp only [List.map_toArray, List.map_cons, List.map_nil]); first | done | rfl | (simp only [List.length_drop, List.length_take]; rfl)) ?_; (with_reducible refine (clewlaw14_anchor.calls k  true _ A3.out).mono ?_); rintro e w7 ⟨rfl, hb⟩; refine ⟨_, rfl, ?_⟩; have n0_ := Aside0.mk (blk_below (g := gb132) (o := .cells #[.int .i64 a0_0, .int .i64 a0_1, .int .i64 a0_2, .int .i64 a0_3, .int .i64 a0_4, .int .i64 a0_5, .int .i64 a0_6, .slice A0_7 l0_7.length c0_7] 33 (0, 0)) (by (with_reducible repeat (first | refine blk_drewN ?_ _ | refine blk_drew ?_ | refine blk_alloc ?_ _)); exact BK132.out) hb); have n1_ := Aside0.mk (below_step (by repeat (first | (with_reducible first | exact HB.out | apply below_alloc | apply pw_below_drewN | apply below_drew1 | refine below_set ?_ GE132.out) | exact HB.out)) hb); clear BK132; clear HB; have BK132 := n0_; have HB := n1_; clear n0_ n1_; (try clear hb); (try clear hb2); (try clear hk); (try clear hi)))
    (try simp only [Act.put, List.setIfInBounds_toArray, List.set_cons_zero, List.set_cons_succ])
    go_cut [5] (fun v5 wc => ∃ (kq : Nat) (x5_4 : Bool), v5 = .bool x5_4 ∧ Aside0 (clewlaw14_EventRight.j0 kq a1 x5_4 a0_0 a0_1 a0_2 a0_3 a0_4 a0_5 a0_6 l0_7 = some r) ∧ Aside0 (kq ≤ k) ∧ Aside0 (wc.heap[gb132]? = some (.cells #[.int .i64 a0_0, .int .i64 a0_1, .int .i64 a0_2, .int .i64 a0_3, .int .i64 a0_4, .int .i64 a0_5, .int .i64 a0_6, (.slice A0_7 l0_7.length c0_7)] 33 (0, 0))) ∧ Aside0 (Below w.heap.size w wc))
    case first =>
      have H := HC5.out
      clear HC5
      replace H := Option.bind_eq_some_iff.mp H
      obtain ⟨t134, A80, H⟩ := H
      replace H : (if t134 = true then ((clewlaw14_within.f a0_0 1 14).bind fun t135 => (if t135 = true then ((clewlaw14_within.f a0_1 0 16384).bind fun t136 => (if t136 = true then ((clewlaw14_within.f a0_2 0 16384).bind fun t137 => (if t137 = true then ((clewlaw14_within.f a0_3 0 65536).bind fun t138 => (if t138 = true then ((clewlaw14_within.f a0_4 0 65536).bind fun t139 => (if t139 = true then ((clewlaw14_within.f a0_5 0 65536).bind fun t140 => (if t140 = true then ((clewlaw14_within.f a0_6 (-1) 1048576).bind fun t141 => (clewlaw14_EventRight.j0 k a1 t141 a0_0 a0_1 a0_2 a0_3 a0_4 a0_5 a0_6 l0_7)) else (clewlaw14_EventRight.j0 k a1 false a0_0 a0_1 a0_2 a0_3 a0_4 a0_5 a0_6 l0_7))) else (clewlaw14_EventRight.j0 k a1 false a0_0 a0_1 a0_2 a0_3 a0_4 a0_5 a0_6 l0_7))) else (clewlaw14_EventRight.j0 k a1 false a0_0 a0_1 a0_2 a0_3 a0_4 a0_5 a0_6 l0_7))) else (clewlaw14_EventRight.j0 k a1 false a0_0 a0_1 a0_2 a0_3 a0_4 a0_5 a0_6 l0_7))) else (clewlaw14_EventRight.j0 k a1 false a0_0 a0_1 a0_2 a0_3 a0_4 a0_5 a0_6 l0_7))) else (clewlaw14_EventRight.j0 k a1 false a0_0 a0_1 a0_2 a0_3 a0_4 a0_5 a0_6 l0_7))) else (clewlaw14_EventRight.j0 k a1 false a0_0 a0_1 a0_2 a0_3 a0_4 a0_5 a0_6 l0_7)) = some r := H
      have A8 := Aside0.mk A80
      clear A80
      by_cases c9 : t134 = true
      · subst c9
        have H1 : ((clewlaw14_within.f a0_0 1 14).bind fun t135 => (if t135 = true then ((clewlaw14_within.f a0_1 0 16384).bind fun t136 => (if t136 = true then ((clewlaw14_within.f a0_2 0 16384).bind fun t137 => (if t137 = true then ((clewlaw14_within.f a0_3 0 65536).bind fun t138 => (if t138 = true then ((clewlaw14_within.f a0_4 0 65536).bind fun t139 => (if t139 = true then ((clewlaw14_within.f a0_5 0 65536).bind fun t140 => (if t140 = true then ((clewlaw14_within.f a0_6 (-1) 1048576).bind fun t141 => (clewlaw14_EventRight.j0 k a1 t141 a0_0 a0_1 a0_2 a0_3 a0_4 a0_5 a0_6 l0_7)) else (clewlaw14_EventRight.j0 k a1 false a0_0 a0_1 a0_2 a0_3 a0_4 a0_5 a0_6 l0_7))) else (clewlaw14_EventRight.j0 k a1 false a0_0 a0_1 a0_2 a0_3 a0_4 a0_5 a0_6 l0_7))) else (clewlaw14_EventRight.j0 k a1 false a0_0 a0_1 a0_2 a0_3 a0_4 a0_5 a0_6 l0_7))) else (clewlaw14_EventRight.j0 k a1 false a0_0 a0_1 a0_2 a0_3 a0_4 a0_5 a0_6 l0_7))) else (clewlaw14_EventRight.j0 k a1 false a0_0 a0_1 a0_2 a0_3 a0_4 a0_5 a0_6 l0_7))) else (clewlaw14_EventRight.j0 k a1 false a0_0 a0_1 a0_2 a0_3 a0_4 a0_5 a0_6 l0_7))) = some r := by rw [if_pos rfl] at H; exact H
        clear H
        have H := H1
        clear H1
        replace H := Option.bind_eq_some_iff.mp H
        obtain ⟨t135, A100, H⟩ := H
        replace H : (if t135 = true then ((clewlaw14_within.f a0_1 0 16384).bind fun t136 => (if t136 = true then ((clewlaw14_within.f a0_2 0 16384).bind fun t137 => (if t137 = true then ((clewlaw14_within.f a0_3 0 65536).bind fun t138 => (if t138 = true then ((clewlaw14_within.f a0_4 0 65536).bind fun t139 => (if t139 = true then ((clewlaw14_within.f a0_5 0 65536).bind fun t140 => (if t140 = true then ((clewlaw14_within.f a0_6 (-1) 1048576).bind fun t141 => (clewlaw14_EventRight.j0 k a1 t141 a0_0 a0_1 a0_2 a0_3 a0_4 a0_5 a0_6 l0_7)) else (clewlaw14_EventRight.j0 k a1 false a0_0 a0_1 a0_2 a0_3 a0_4 a0_5 a0_6 l0_7))) else (clewlaw14_EventRight.j0 k a1 false a0_0 a0_1 a0_2 a0_3 a0_4 a0_5 a0_6 l0_7))) else (clewlaw14_EventRight.j0 k a1 false a0_0 a0_1 a0_2 a0_3 a0_4 a0_5 a0_6 l0_7))) else (clewlaw14_EventRight.j0 k a1 false a0_0 a0_1 a0_2 a0_3 a0_4 a0_5 a0_6 l0_7))) else (clewlaw14_EventRight.j0 k a1 false a0_0 a0_1 a0_2 a0_3 a0_4 a0_5 a0_6 l0_7))) else (clewlaw14_EventRight.j0 k a1 false a0_0 a0_1 a0_2 a0_3 a0_4 a0_5 a0_6 l0_7)) = some r := H
        have A10 := Aside0.mk A100
        clear A100
        by_cases c11 : t135 = true
        · subst c11
          have H1 : ((clewlaw14_within.f a0_1 0 16384).bind fun t136 => (if t136 = true then ((clewlaw14_within.f a0_2 0 16384).bind fun t137 => (if t137 = true then ((clewlaw14_within.f a0_3 0 65536).bind fun t138 => (if t138 = true then ((clewlaw14_within.f a0_4 0 65536).bind fun t139 => (if t139 = true then ((clewlaw14_within.f a0_5 0 65536).bind fun t140 => (if t140 = true then ((clewlaw14_within.f a0_6 (-1) 1048576).bind fun t141 => (clewlaw14_EventRight.j0 k a1 t141 a0_0 a0_1 a0_2 a0_3 a0_4 a0_5 a0_6 l0_7)) else (clewlaw14_EventRight.j0 k a1 false a0_0 a0_1 a0_2 a0_3 a0_4 a0_5 a0_6 l0_7))) else (clewlaw14_EventRight.j0 k a1 false a0_0 a0_1 a0_2 a0_3 a0_4 a0_5 a0_6 l0_7))) else (clewlaw14_EventRight.j0 k a1 false a0_0 a0_1 a0_2 a0_3 a0_4 a0_5 a0_6 l0_7))) else (clewlaw14_EventRight.j0 k a1 false a0_0 a0_1 a0_2 a0_3 a0_4 a0_5 a0_6 l0_7))) else (clewlaw14_EventRight.j0 k a1 false a0_0 a0_1 a0_2 a0_3 a0_4 a0_5 a0_6 l0_7))) = some r := by rw [if_pos rfl] at H; exact H
          clear H
          have H := H1
          clear H1
          replace H := Option.bind_eq_some_iff.mp H
          obtain ⟨t136, A120, H⟩ := H
          replace H : (if t136 = true then ((clewlaw14_within.f a0_2 0 16384).bind fun t137 => (if t137 = true then ((clewlaw14_within.f a0_3 0 65536).bind fun t138 => (if t138 = true then ((clewlaw14_within.f a0_4 0 65536).bind fun t139 => (if t139 = true then ((clewlaw14_within.f a0_5 0 65536).bind fun t140 => (if t140 = true then ((clewlaw14_within.f a0_6 (-1) 1048576).bind fun t141 => (clewlaw14_EventRight.j0 k a1 t141 a0_0 a0_1 a0_2 a0_3 a0_4 a0_5 a0_6 l0_7)) else (clewlaw14_EventRight.j0 k a1 false a0_0 a0_1 a0_2 a0_3 a0_4 a0_5 a0_6 l0_7))) else (clewlaw14_EventRight.j0 k a1 false a0_0 a0_1 a0_2 a0_3 a0_4 a0_5 a0_6 l0_7))) else (clewlaw14_EventRight.j0 k a1 false a0_0 a0_1 a0_2 a0_3 a0_4 a0_5 a0_6 l0_7))) else (clewlaw14_EventRight.j0 k a1 false a0_0 a0_1 a0_2 a0_3 a0_4 a0_5 a0_6 l0_7))) else (clewlaw14_EventRight.j0 k a1 false a0_0 a0_1 a0_2 a0_3 a0_4 a0_5 a0_6 l0_7)) = some r := H
          have A12 := Aside0.mk A120
          clear A120
          by_cases c13 : t136 = true
          · subst c13
            have H1 : ((clewlaw14_within.f a0_2 0 16384).bind fun t137 => (if t137 = true then ((clewlaw14_within.f a0_3 0 65536).bind fun t138 => (if t138 = true then ((clewlaw14_within.f a0_4 0 65536).bind fun t139 => (if t139 = true then ((clewlaw14_within.f a0_5 0 65536).bind fun t140 => (if t140 = true then ((clewlaw14_within.f a0_6 (-1) 1048576).bind fun t141 => (clewlaw14_EventRight.j0 k a1 t141 a0_0 a0_1 a0_2 a0_3 a0_4 a0_5 a0_6 l0_7)) else (clewlaw14_EventRight.j0 k a1 false a0_0 a0_1 a0_2 a0_3 a0_4 a0_5 a0_6 l0_7))) else (clewlaw14_EventRight.j0 k a1 false a0_0 a0_1 a0_2 a0_3 a0_4 a0_5 a0_6 l0_7))) else (clewlaw14_EventRight.j0 k a1 false a0_0 a0_1 a0_2 a0_3 a0_4 a0_5 a0_6 l0_7))) else (clewlaw14_EventRight.j0 k a1 false a0_0 a0_1 a0_2 a0_3 a0_4 a0_5 a0_6 l0_7))) = some r := by rw [if_pos rfl] at H; exact H
            clear H
            have H := H1
            clear H1
            replace H := Option.bind_eq_some_iff.mp H
            obtain ⟨t137, A140, H⟩ := H
            replace H : (if t137 = true then ((clewlaw14_within.f a0_3 0 65536).bind fun t138 => (if t138 = true then ((clewlaw14_within.f a0_4 0 65536).bind fun t139 => (if t139 = true then ((clewlaw14_within.f a0_5 0 65536).bind fun t140 => (if t140 = true then ((clewlaw14_within.f a0_6 (-1) 1048576).bind fun t141 => (clewlaw14_EventRight.j0 k a1 t141 a0_0 a0_1 a0_2 a0_3 a0_4 a0_5 a0_6 l0_7)) else (clewlaw14_EventRight.j0 k a1 false a0_0 a0_1 a0_2 a0_3 a0_4 a0_5 a0_6 l0_7))) else (clewlaw14_EventRight.j0 k a1 false a0_0 a0_1 a0_2 a0_3 a0_4 a0_5 a0_6 l0_7))) else (clewlaw14_EventRight.j0 k a1 false a0_0 a0_1 a0_2 a0_3 a0_4 a0_5 a0_6 l0_7))) else (clewlaw14_EventRight.j0 k a1 false a0_0 a0_1 a0_2 a0_3 a0_4 a0_5 a0_6 l0_7)) = some r := H
            have A14 := Aside0.mk A140
            clear A140
            by_cases c15 : t137 = true
            · subst c15
              have H1 : ((clewlaw14_within.f a0_3 0 65536).bind fun t138 => (if t138 = true then ((clewlaw14_within.f a0_4 0 65536).bind fun t139 => (if t139 = true then ((clewlaw14_within.f a0_5 0 65536).bind fun t140 => (if t140 = true then ((clewlaw14_within.f a0_6 (-1) 1048576).bind fun t141 => (clewlaw14_EventRight.j0 k a1 t141 a0_0 a0_1 a0_2 a0_3 a0_4 a0_5 a0_6 l0_7)) else (clewlaw14_EventRight.j0 k a1 false a0_0 a0_1 a0_2 a0_3 a0_4 a0_5 a0_6 l0_7))) else (clewlaw14_EventRight.j0 k a1 false a0_0 a0_1 a0_2 a0_3 a0_4 a0_5 a0_6 l0_7))) else (clewlaw14_EventRight.j0 k a1 false a0_0 a0_1 a0_2 a0_3 a0_4 a0_5 a0_6 l0_7))) = some r := by rw [if_pos rfl] at H; exact H
              clear H
              have H := H1
              clear H1
              replace H := Option.bind_eq_some_iff.mp H
              obtain ⟨t138, A160, H⟩ := H
              replace H : (if t138 = true then ((clewlaw14_within.f a0_4 0 65536).bind fun t139 => (if t139 = true then ((clewlaw14_within.f a0_5 0 65536).bind fun t140 => (if t140 = true then ((clewlaw14_within.f a0_6 (-1) 1048576).bind fun t141 => (clewlaw14_EventRight.j0 k a1 t141 a0_0 a0_1 a0_2 a0_3 a0_4 a0_5 a0_6 l0_7)) else (clewlaw14_EventRight.j0 k a1 false a0_0 a0_1 a0_2 a0_3 a0_4 a0_5 a0_6 l0_7))) else (clewlaw14_EventRight.j0 k a1 false a0_0 a0_1 a0_2 a0_3 a0_4 a0_5 a0_6 l0_7))) else (clewlaw14_EventRight.j0 k a1 false a0_0 a0_1 a0_2 a0_3 a0_4 a0_5 a0_6 l0_7)) = some r := H
              have A16 := Aside0.mk A160
              clear A160
              by_cases c17 : t138 = true
              · subst c17
                have H1 : ((clewlaw14_within.f a0_4 0 65536).bind fun t139 => (if t139 = true then ((clewlaw14_within.f a0_5 0 65536).bind fun t140 => (if t140 = true then ((clewlaw14_within.f a0_6 (-1) 1048576).bind fun t141 => (clewlaw14_EventRight.j0 k a1 t141 a0_0 a0_1 a0_2 a0_3 a0_4 a0_5 a0_6 l0_7)) else (clewlaw14_EventRight.j0 k a1 false a0_0 a0_1 a0_2 a0_3 a0_4 a0_5 a0_6 l0_7))) else (clewlaw14_EventRight.j0 k a1 false a0_0 a0_1 a0_2 a0_3 a0_4 a0_5 a0_6 l0_7))) = some r := by rw [if_pos rfl] at H; exact H
                clear H
                have H := H1
                clear H1
                replace H := Option.bind_eq_some_iff.mp H
                obtain ⟨t139, A180, H⟩ := H
                replace H : (if t139 = true then ((clewlaw14_within.f a0_5 0 65536).bind fun t140 => (if t140 = true then ((clewlaw14_within.f a0_6 (-1) 1048576).bind fun t141 => (clewlaw14_EventRight.j0 k a1 t141 a0_0 a0_1 a0_2 a0_3 a0_4 a0_5 a0_6 l0_7)) else (clewlaw14_EventRight.j0 k a1 false a0_0 a0_1 a0_2 a0_3 a0_4 a0_5 a0_6 l0_7))) else (clewlaw14_EventRight.j0 k a1 false a0_0 a0_1 a0_2 a0_3 a0_4 a0_5 a0_6 l0_7)) = some r := H
                have A18 := Aside0.mk A180
                clear A180
                by_cases c19 : t139 = true
                · subst c19
                  have H1 : ((clewlaw14_within.f a0_5 0 65536).bind fun t140 => (if t140 = true then ((clewlaw14_within.f a0_6 (-1) 1048576).bind fun t141 => (clewlaw14_EventRight.j0 k a1 t141 a0_0 a0_1 a0_2 a0_3 a0_4 a0_5 a0_6 l0_7)) else (clewlaw14_EventRight.j0 k a1 false a0_0 a0_1 a0_2 a0_3 a0_4 a0_5 a0_6 l0_7))) = some r := by rw [if_pos rfl] at H; exact H
                  clear H
                  have H := H1
                  clear H1
                  replace H := Option.bind_eq_some_iff.mp H
                  obtain ⟨t140, A200, H⟩ := H
                  replace H : (if t140 = true then ((clewlaw14_within.f a0_6 (-1) 1048576).bind fun t141 => (clewlaw14_EventRight.j0 k a1 t141 a0_0 a0_1 a0_2 a0_3 a0_4 a0_5 a0_6 l0_7)) else (clewlaw14_EventRight.j0 k a1 false a0_0 a0_1 a0_2 a0_3 a0_4 a0_5 a0_6 l0_7)) = some r := H
                  have A20 := Aside0.mk A200
                  clear A200
                  by_cases c21 : t140 = true
                  · subst c21
                    have H1 : ((clewlaw14_within.f a0_6 (-1) 1048576).bind fun t141 => (clewlaw14_EventRight.j0 k a1 t141 a0_0 a0_1 a0_2 a0_3 a0_4 a0_5 a0_6 l0_7)) = some r := by rw [if_pos rfl] at H; exact H
                    clear H
                    have H := H1
                    clear H1
                    replace H := Option.bind_eq_some_iff.mp H
                    obtain ⟨t141, A220, H⟩ := H
                    replace H : (clewlaw14_EventRight.j0 k a1 t141 a0_0 a0_1 a0_2 a0_3 a0_4 a0_5 a0_6 l0_7) = some r := H
                    have A22 := Aside0.mk A220
                    clear A220
                    have H' := Aside0.mk H
                    clear H
                    go_wp2_with (first | ((with_reducible refine gate_callee (f := 25) rfl ?_); refine goesL_ (some 11) rfl rfl Try.func25 (by kernel_rfl) rfl #[.int .i64 a1, .int .i64 0, .int .i64 99] rfl (by (try simp only [List.map_toArray, List.map_cons, List.map_nil]); first | done | rfl | (simp only [List.length_drop, List.length_take]; rfl)) ?_; (with_reducible refine (clewlaw14_within.calls a1 0 99 true _ A8.out).mono ?_); rintro e w' ⟨rfl, ⟨nd, rfl⟩⟩; refine ⟨_, rfl, ?_⟩; have hcz23_0 : w7.cell? ⟨gb132, 0, none⟩ = some (.int .i64 a0_0) := (blk_cell BK132.out 0).trans rfl; have hcz23_1 : w7.cell? ⟨gb132, 1, none⟩ = some (.int .i64 a0_1) := (blk_cell BK132.out 1).trans rfl; have hcz23_2 : w7.cell? ⟨gb132, 2, none⟩ = some (.int .i64 a0_2) := (blk_cell BK132.out 2).trans rfl; have hcz23_3 : w7.cell? ⟨gb132, 3, none⟩ = some (.int .i64 a0_3) := (blk_cell BK132.out 3).trans rfl; have hcz23_4 : w7.cell? ⟨gb132, 4, none⟩ = some (.int .i64 a0_4) := (blk_cell BK132.out 4).trans rfl; have hcz23_5 : w7.cell? ⟨gb132, 5, none⟩ = some (.int .i64 a0_5) := (blk_cell BK132.out 5).trans rfl; have hcz23_6 : w7.cell? ⟨gb132, 6, none⟩ = some (.int .i64 a0_6) := (blk_cell BK132.out 6).trans rfl; have hcz23_7 : w7.cell? ⟨gb132, 7, none⟩ = some (.slice A0_7 l0_7.length c0_7) := (blk_cell BK132.out 7).trans rfl; have hfz23_0 := blk_frozen BK132.out 0; have hfz23_1 := blk_frozen BK132.out 1; have hfz23_2 := blk_frozen BK132.out 2; have hfz23_3 := blk_frozen BK132.out 3; have hfz23_4 := blk_frozen BK132.out 4; have hfz23_5 := blk_frozen BK132.out 5; have hfz23_6 := blk_frozen BK132.out 6; have hfz23_7 := blk_frozen BK132.out 7) | (go_at_call 25; (with_reducible refine (clewlaw14_within.calls a0_0 1 14 true _ A10.out).mono ?_); rintro e w' ⟨rfl, ⟨nd, rfl⟩⟩) | (go_at_call 25; (with_reducible refine (clewlaw14_within.calls a0_1 0 16384 true _ A12.out).mono ?_); rintro e w' ⟨rfl, ⟨nd, rfl⟩⟩) | (go_at_call 25; (with_reducible refine (clewlaw14_within.calls a0_2 0 16384 true _ A14.out).mono ?_); rintro e w' ⟨rfl, ⟨nd, rfl⟩⟩) | (go_at_call 25; (with_reducible refine (clewlaw14_within.calls a0_3 0 65536 true _ A16.out).mono ?_); rintro e w' ⟨rfl, ⟨nd, rfl⟩⟩) | (go_at_call 25; (with_reducible refine (clewlaw14_within.calls a0_4 0 65536 true _ A18.out).mono ?_); rintro e w' ⟨rfl, ⟨nd, rfl⟩⟩) | (go_at_call 25; (with_reducible refine (clewlaw14_within.calls a0_5 0 65536 true _ A20.out).mono ?_); rintro e w' ⟨rfl, ⟨nd, rfl⟩⟩) | (go_at_call 25; (with_reducible refine (clewlaw14_within.calls a0_6 (-1) 1048576 t141 _ A22.out).mono ?_); rintro e w' ⟨rfl, ⟨nd, rfl⟩⟩))
                    go_meet
                    case rel => exact ⟨_, (t141), (by first | rfl | (simp; done) | (simp [*]; done)), H', ⟨by first | omega | exact Nat.le_refl _⟩, ⟨by (with_reducible repeat (first | refine blk_drewN ?_ _ | refine blk_drew ?_ | refine blk_alloc ?_ _)); exact BK132.out⟩, ⟨by repeat (first | (with_reducible first | exact HB.out | apply below_alloc | apply pw_below_drewN | apply below_drew1 | refine below_set ?_ GE132.out) | exact HB.out)⟩⟩
                  · replace c21 := Bool.eq_false_iff.mpr c21
                    subst c21
                    have H1 : (clewlaw14_EventRight.j0 k a1 false a0_0 a0_1 a0_2 a0_3 a0_4 a0_5 a0_6 l0_7) = some r := by rw [if_neg (show ¬ (false = true) by decide)] at H; exact H
                    clear H
                    have H := H1
                    clear H1
                    have H' := Aside0.mk H
                    clear H
                    go_wp2_with (first | ((with_reducible refine gate_callee (f := 25) rfl ?_); refine goesL_ (some 11) rfl rfl Try.func25 (by kernel_rfl) rfl #[.int .i64 a1, .int .i64 0, .int .i64 99] rfl (by (try simp only [List.map_toArray, List.map_cons, List.map_nil]); first | done | rfl | (simp only [List.length_drop, List.length_take]; rfl)) ?_; (with_reducible refine (clewlaw14_within.calls a1 0 99 true _ A8.out).mono ?_); rintro e w' ⟨rfl, ⟨nd, rfl⟩⟩; refine ⟨_, rfl, ?_⟩; have hcz24_0 : w7.cell? ⟨gb132, 0, none⟩ = some (.int .i64 a0_0) := (blk_cell BK132.out 0).trans rfl; have hcz24_1 : w7.cell? ⟨gb132, 1, none⟩ = some (.int .i64 a0_1) := (blk_cell BK132.out 1).trans rfl; have hcz24_2 : w7.cell? ⟨gb132, 2, none⟩ = some (.int .i64 a0_2) := (blk_cell BK132.out 2).trans rfl; have hcz24_3 : w7.cell? ⟨gb132, 3, none⟩ = some (.int .i64 a0_3) := (blk_cell BK132.out 3).trans rfl; have hcz24_4 : w7.cell? ⟨gb132, 4, none⟩ = some (.int .i64 a0_4) := (blk_cell BK132.out 4).trans rfl; have hcz24_5 : w7.cell? ⟨gb132, 5, none⟩ = some (.int .i64 a0_5) := (blk_cell BK132.out 5).trans rfl; have hcz24_6 : w7.cell? ⟨gb132, 6, none⟩ = some (.int .i64 a0_6) := (blk_cell BK132.out 6).trans rfl; have hcz24_7 : w7.cell? ⟨gb132, 7, none⟩ = some (.slice A0_7 l0_7.length c0_7) := (blk_cell BK132.out 7).trans rfl; have hfz24_0 := blk_frozen BK132.out 0; have hfz24_1 := blk_frozen BK132.out 1; have hfz24_2 := blk_frozen BK132.out 2; have hfz24_3 := blk_frozen BK132.out 3; have hfz24_4 := blk_frozen BK132.out 4; have hfz24_5 := blk_frozen BK132.out 5; have hfz24_6 := blk_frozen BK132.out 6; have hfz24_7 := blk_frozen BK132.out 7) | (go_at_call 25; (with_reducible refine (clewlaw14_within.calls a0_0 1 14 true _ A10.out).mono ?_); rintro e w' ⟨rfl, ⟨nd, rfl⟩⟩) | (go_at_call 25; (with_reducible refine (clewlaw14_within.calls a0_1 0 16384 true _ A12.out).mono ?_); rintro e w' ⟨rfl, ⟨nd, rfl⟩⟩) | (go_at_call 25; (with_reducible refine (clewlaw14_within.calls a0_2 0 16384 true _ A14.out).mono ?_); rintro e w' ⟨rfl, ⟨nd, rfl⟩⟩) | (go_at_call 25; (with_reducible refine (clewlaw14_within.calls a0_3 0 65536 true _ A16.out).mono ?_); rintro e w' ⟨rfl, ⟨nd, rfl⟩⟩) | (go_at_call 25; (with_reducible refine (clewlaw14_within.calls a0_4 0 65536 true _ A18.out).mono ?_); rintro e w' ⟨rfl, ⟨nd, rfl⟩⟩) | (go_at_call 25; (with_reducible refine (clewlaw14_within.calls a0_5 0 65536 false _ A20.out).mono ?_); rintro e w' ⟨rfl, ⟨nd, rfl⟩⟩))
                    go_meet
                    case rel => exact ⟨_, (false), (by first | rfl | (simp; done) | (simp [*]; done)), H', ⟨by first | omega | exact Nat.le_refl _⟩, ⟨by (with_reducible repeat (first | refine blk_drewN ?_ _ | refine blk_drew ?_ | refine blk_alloc ?_ _)); exact BK132.out⟩, ⟨by repeat (first | (with_reducible first | exact HB.out | apply below_alloc | apply pw_below_drewN | apply below_drew1 | refine below_set ?_ GE132.out) | exact HB.out)⟩⟩
                · replace c19 := Bool.eq_false_iff.mpr c19
                  subst c19
                  have H1 : (clewlaw14_EventRight.j0 k a1 false a0_0 a0_1 a0_2 a0_3 a0_4 a0_5 a0_6 l0_7) = some r := by rw [if_neg (show ¬ (false = true) by decide)] at H; exact H
                  clear H
                  have H := H1
                  clear H1
                  have H' := Aside0.mk H
                  clear H
                  go_wp2_with (first | ((with_reducible refine gate_callee (f := 25) rfl ?_); refine goesL_ (some 11) rfl rfl Try.func25 (by kernel_rfl) rfl #[.int .i64 a1, .int .i64 0, .int .i64 99] rfl (by (try simp only [List.map_toArray, List.map_cons, List.map_nil]); first | done | rfl | (simp only [List.length_drop, List.length_take]; rfl)) ?_; (with_reducible refine (clewlaw14_within.calls a1 0 99 true _ A8.out).mono ?_); rintro e w' ⟨rfl, ⟨nd, rfl⟩⟩; refine ⟨_, rfl, ?_⟩; have hcz25_0 : w7.cell? ⟨gb132, 0, none⟩ = some (.int .i64 a0_0) := (blk_cell BK132.out 0).trans rfl; have hcz25_1 : w7.cell? ⟨gb132, 1, none⟩ = some (.int .i64 a0_1) := (blk_cell BK132.out 1).trans rfl; have hcz25_2 : w7.cell? ⟨gb132, 2, none⟩ = some (.int .i64 a0_2) := (blk_cell BK132.out 2).trans rfl; have hcz25_3 : w7.cell? ⟨gb132, 3, none⟩ = some (.int .i64 a0_3) := (blk_cell BK132.out 3).trans rfl; have hcz25_4 : w7.cell? ⟨gb132, 4, none⟩ = some (.int .i64 a0_4) := (blk_cell BK132.out 4).trans rfl; have hcz25_5 : w7.cell? ⟨gb132, 5, none⟩ = some (.int .i64 a0_5) := (blk_cell BK132.out 5).trans rfl; have hcz25_6 : w7.cell? ⟨gb132, 6, none⟩ = some (.int .i64 a0_6) := (blk_cell BK132.out 6).trans rfl; have hcz25_7 : w7.cell? ⟨gb132, 7, none⟩ = some (.slice A0_7 l0_7.length c0_7) := (blk_cell BK132.out 7).trans rfl; have hfz25_0 := blk_frozen BK132.out 0; have hfz25_1 := blk_frozen BK132.out 1; have hfz25_2 := blk_frozen BK132.out 2; have hfz25_3 := blk_frozen BK132.out 3; have hfz25_4 := blk_frozen BK132.out 4; have hfz25_5 := blk_frozen BK132.out 5; have hfz25_6 := blk_frozen BK132.out 6; have hfz25_7 := blk_frozen BK132.out 7) | (go_at_call 25; (with_reducible refine (clewlaw14_within.calls a0_0 1 14 true _ A10.out).mono ?_); rintro e w' ⟨rfl, ⟨nd, rfl⟩⟩) | (go_at_call 25; (with_reducible refine (clewlaw14_within.calls a0_1 0 16384 true _ A12.out).mono ?_); rintro e w' ⟨rfl, ⟨nd, rfl⟩⟩) | (go_at_call 25; (with_reducible refine (clewlaw14_within.calls a0_2 0 16384 true _ A14.out).mono ?_); rintro e w' ⟨rfl, ⟨nd, rfl⟩⟩) | (go_at_call 25; (with_reducible refine (clewlaw14_within.calls a0_3 0 65536 true _ A16.out).mono ?_); rintro e w' ⟨rfl, ⟨nd, rfl⟩⟩) | (go_at_call 25; (with_reducible refine (clewlaw14_within.calls a0_4 0 65536 false _ A18.out).mono ?_); rintro e w' ⟨rfl, ⟨nd, rfl⟩⟩))
                  go_meet
                  case rel => exact ⟨_, (false), (by first | rfl | (simp; done) | (simp [*]; done)), H', ⟨by first | omega | exact Nat.le_refl _⟩, ⟨by (with_reducible repeat (first | refine blk_drewN ?_ _ | refine blk_drew ?_ | refine blk_alloc ?_ _)); exact BK132.out⟩, ⟨by repeat (first | (with_reducible first | exact HB.out | apply below_alloc | apply pw_below_drewN | apply below_drew1 | refine below_set ?_ GE132.out) | exact HB.out)⟩⟩
              · replace c17 := Bool.eq_false_iff.mpr c17
                subst c17
                have H1 : (clewlaw14_EventRight.j0 k a1 false a0_0 a0_1 a0_2 a0_3 a0_4 a0_5 a0_6 l0_7) = some r := by rw [if_neg (show ¬ (false = true) by decide)] at H; exact H
                clear H
                have H := H1
                clear H1
                have H' := Aside0.mk H
                clear H
                go_wp2_with (first | ((with_reducible refine gate_callee (f := 25) rfl ?_); refine goesL_ (some 11) rfl rfl Try.func25 (by kernel_rfl) rfl #[.int .i64 a1, .int .i64 0, .int .i64 99] rfl (by (try simp only [List.map_toArray, List.map_cons, List.map_nil]); first | done | rfl | (simp only [List.length_drop, List.length_take]; rfl)) ?_; (with_reducible refine (clewlaw14_within.calls a1 0 99 true _ A8.out).mono ?_); rintro e w' ⟨rfl, ⟨nd, rfl⟩⟩; refine ⟨_, rfl, ?_⟩; have hcz26_0 : w7.cell? ⟨gb132, 0, none⟩ = some (.int .i64 a0_0) := (blk_cell BK132.out 0).trans rfl; have hcz26_1 : w7.cell? ⟨gb132, 1, none⟩ = some (.int .i64 a0_1) := (blk_cell BK132.out 1).trans rfl; have hcz26_2 : w7.cell? ⟨gb132, 2, none⟩ = some (.int .i64 a0_2) := (blk_cell BK132.out 2).trans rfl; have hcz26_3 : w7.cell? ⟨gb132, 3, none⟩ = some (.int .i64 a0_3) := (blk_cell BK132.out 3).trans rfl; have hcz26_4 : w7.cell? ⟨gb132, 4, none⟩ = some (.int .i64 a0_4) := (blk_cell BK132.out 4).trans rfl; have hcz26_5 : w7.cell? ⟨gb132, 5, none⟩ = some (.int .i64 a0_5) := (blk_cell BK132.out 5).trans rfl; have hcz26_6 : w7.cell? ⟨gb132, 6, none⟩ = some (.int .i64 a0_6) := (blk_cell BK132.out 6).trans rfl; have hcz26_7 : w7.cell? ⟨gb132, 7, none⟩ = some (.slice A0_7 l0_7.length c0_7) := (blk_cell BK132.out 7).trans rfl; have hfz26_0 := blk_frozen BK132.out 0; have hfz26_1 := blk_frozen BK132.out 1; have hfz26_2 := blk_frozen BK132.out 2; have hfz26_3 := blk_frozen BK132.out 3; have hfz26_4 := blk_frozen BK132.out 4; have hfz26_5 := blk_frozen BK132.out 5; have hfz26_6 := blk_frozen BK132.out 6; have hfz26_7 := blk_frozen BK132.out 7) | (go_at_call 25; (with_reducible refine (clewlaw14_within.calls a0_0 1 14 true _ A10.out).mono ?_); rintro e w' ⟨rfl, ⟨nd, rfl⟩⟩) | (go_at_call 25; (with_reducible refine (clewlaw14_within.calls a0_1 0 16384 true _ A12.out).mono ?_); rintro e w' ⟨rfl, ⟨nd, rfl⟩⟩) | (go_at_call 25; (with_reducible refine (clewlaw14_within.calls a0_2 0 16384 true _ A14.out).mono ?_); rintro e w' ⟨rfl, ⟨nd, rfl⟩⟩) | (go_at_call 25; (with_reducible refine (clewlaw14_within.calls a0_3 0 65536 false _ A16.out).mono ?_); rintro e w' ⟨rfl, ⟨nd, rfl⟩⟩))
                go_meet
                case rel => exact ⟨_, (false), (by first | rfl | (simp; done) | (simp [*]; done)), H', ⟨by first | omega | exact Nat.le_refl _⟩, ⟨by (with_reducible repeat (first | refine blk_drewN ?_ _ | refine blk_drew ?_ | refine blk_alloc ?_ _)); exact BK132.out⟩, ⟨by repeat (first | (with_reducible first | exact HB.out | apply below_alloc | apply pw_below_drewN | apply below_drew1 | refine below_set ?_ GE132.out) | exact HB.out)⟩⟩
            · replace c15 := Bool.eq_false_iff.mpr c15
              subst c15
              have H1 : (clewlaw14_EventRight.j0 k a1 false a0_0 a0_1 a0_2 a0_3 a0_4 a0_5 a0_6 l0_7) = some r := by rw [if_neg (show ¬ (false = true) by decide)] at H; exact H
              clear H
              have H := H1
              clear H1
              have H' := Aside0.mk H
              clear H
              go_wp2_with (first | ((with_reducible refine gate_callee (f := 25) rfl ?_); refine goesL_ (some 11) rfl rfl Try.func25 (by kernel_rfl) rfl #[.int .i64 a1, .int .i64 0, .int .i64 99] rfl (by (try simp only [List.map_toArray, List.map_cons, List.map_nil]); first | done | rfl | (simp only [List.length_drop, List.length_take]; rfl)) ?_; (with_reducible refine (clewlaw14_within.calls a1 0 99 true _ A8.out).mono ?_); rintro e w' ⟨rfl, ⟨nd, rfl⟩⟩; refine ⟨_, rfl, ?_⟩; have hcz27_0 : w7.cell? ⟨gb132, 0, none⟩ = some (.int .i64 a0_0) := (blk_cell BK132.out 0).trans rfl; have hcz27_1 : w7.cell? ⟨gb132, 1, none⟩ = some (.int .i64 a0_1) := (blk_cell BK132.out 1).trans rfl; have hcz27_2 : w7.cell? ⟨gb132, 2, none⟩ = some (.int .i64 a0_2) := (blk_cell BK132.out 2).trans rfl; have hcz27_3 : w7.cell? ⟨gb132, 3, none⟩ = some (.int .i64 a0_3) := (blk_cell BK132.out 3).trans rfl; have hcz27_4 : w7.cell? ⟨gb132, 4, none⟩ = some (.int .i64 a0_4) := (blk_cell BK132.out 4).trans rfl; have hcz27_5 : w7.cell? ⟨gb132, 5, none⟩ = some (.int .i64 a0_5) := (blk_cell BK132.out 5).trans rfl; have hcz27_6 : w7.cell? ⟨gb132, 6, none⟩ = some (.int .i64 a0_6) := (blk_cell BK132.out 6).trans rfl; have hcz27_7 : w7.cell? ⟨gb132, 7, none⟩ = some (.slice A0_7 l0_7.length c0_7) := (blk_cell BK132.out 7).trans rfl; have hfz27_0 := blk_frozen BK132.out 0; have hfz27_1 := blk_frozen BK132.out 1; have hfz27_2 := blk_frozen BK132.out 2; have hfz27_3 := blk_frozen BK132.out 3; have hfz27_4 := blk_frozen BK132.out 4; have hfz27_5 := blk_frozen BK132.out 5; have hfz27_6 := blk_frozen BK132.out 6; have hfz27_7 := blk_frozen BK132.out 7) | (go_at_call 25; (with_reducible refine (clewlaw14_within.calls a0_0 1 14 true _ A10.out).mono ?_); rintro e w' ⟨rfl, ⟨nd, rfl⟩⟩) | (go_at_call 25; (with_reducible refine (clewlaw14_within.calls a0_1 0 16384 true _ A12.out).mono ?_); rintro e w' ⟨rfl, ⟨nd, rfl⟩⟩) | (go_at_call 25; (with_reducible refine (clewlaw14_within.calls a0_2 0 16384 false _ A14.out).mono ?_); rintro e w' ⟨rfl, ⟨nd, rfl⟩⟩))
              go_meet
              case rel => exact ⟨_, (false), (by first | rfl | (simp; done) | (simp [*]; done)), H', ⟨by first | omega | exact Nat.le_refl _⟩, ⟨by (with_reducible repeat (first | refine blk_drewN ?_ _ | refine blk_drew ?_ | refine blk_alloc ?_ _)); exact BK132.out⟩, ⟨by repeat (first | (with_reducible first | exact HB.out | apply below_alloc | apply pw_below_drewN | apply below_drew1 | refine below_set ?_ GE132.out) | exact HB.out)⟩⟩
          · replace c13 := Bool.eq_false_iff.mpr c13
            subst c13
            have H1 : (clewlaw14_EventRight.j0 k a1 false a0_0 a0_1 a0_2 a0_3 a0_4 a0_5 a0_6 l0_7) = some r := by rw [if_neg (show ¬ (false = true) by decide)] at H; exact H
            clear H
            have H := H1
            clear H1
            have H' := Aside0.mk H
            clear H
            go_wp2_with (first | ((with_reducible refine gate_callee (f := 25) rfl ?_); refine goesL_ (some 11) rfl rfl Try.func25 (by kernel_rfl) rfl #[.int .i64 a1, .int .i64 0, .int .i64 99] rfl (by (try simp only [List.map_toArray, List.map_cons, List.map_nil]); first | done | rfl | (simp only [List.length_drop, List.length_take]; rfl)) ?_; (with_reducible refine (clewlaw14_within.calls a1 0 99 true _ A8.out).mono ?_); rintro e w' ⟨rfl, ⟨nd, rfl⟩⟩; refine ⟨_, rfl, ?_⟩; have hcz28_0 : w7.cell? ⟨gb132, 0, none⟩ = some (.int .i64 a0_0) := (blk_cell BK132.out 0).trans rfl; have hcz28_1 : w7.cell? ⟨gb132, 1, none⟩ = some (.int .i64 a0_1) := (blk_cell BK132.out 1).trans rfl; have hcz28_2 : w7.cell? ⟨gb132, 2, none⟩ = some (.int .i64 a0_2) := (blk_cell BK132.out 2).trans rfl; have hcz28_3 : w7.cell? ⟨gb132, 3, none⟩ = some (.int .i64 a0_3) := (blk_cell BK132.out 3).trans rfl; have hcz28_4 : w7.cell? ⟨gb132, 4, none⟩ = some (.int .i64 a0_4) := (blk_cell BK132.out 4).trans rfl; have hcz28_5 : w7.cell? ⟨gb132, 5, none⟩ = some (.int .i64 a0_5) := (blk_cell BK132.out 5).trans rfl; have hcz28_6 : w7.cell? ⟨gb132, 6, none⟩ = some (.int .i64 a0_6) := (blk_cell BK132.out 6).trans rfl; have hcz28_7 : w7.cell? ⟨gb132, 7, none⟩ = some (.slice A0_7 l0_7.length c0_7) := (blk_cell BK132.out 7).trans rfl; have hfz28_0 := blk_frozen BK132.out 0; have hfz28_1 := blk_frozen BK132.out 1; have hfz28_2 := blk_frozen BK132.out 2; have hfz28_3 := blk_frozen BK132.out 3; have hfz28_4 := blk_frozen BK132.out 4; have hfz28_5 := blk_frozen BK132.out 5; have hfz28_6 := blk_frozen BK132.out 6; have hfz28_7 := blk_frozen BK132.out 7) | (go_at_call 25; (with_reducible refine (clewlaw14_within.calls a0_0 1 14 true _ A10.out).mono ?_); rintro e w' ⟨rfl, ⟨nd, rfl⟩⟩) | (go_at_call 25; (with_reducible refine (clewlaw14_within.calls a0_1 0 16384 false _ A12.out).mono ?_); rintro e w' ⟨rfl, ⟨nd, rfl⟩⟩))
            go_meet
            case rel => exact ⟨_, (false), (by first | rfl | (simp; done) | (simp [*]; done)), H', ⟨by first | omega | exact Nat.le_refl _⟩, ⟨by (with_reducible repeat (first | refine blk_drewN ?_ _ | refine blk_drew ?_ | refine blk_alloc ?_ _)); exact BK132.out⟩, ⟨by repeat (first | (with_reducible first | exact HB.out | apply below_alloc | apply pw_below_drewN | apply below_drew1 | refine below_set ?_ GE132.out) | exact HB.out)⟩⟩
        · replace c11 := Bool.eq_false_iff.mpr c11
          subst c11
          have H1 : (clewlaw14_EventRight.j0 k a1 false a0_0 a0_1 a0_2 a0_3 a0_4 a0_5 a0_6 l0_7) = some r := by rw [if_neg (show ¬ (false = true) by decide)] at H; exact H
          clear H
          have H := H1
          clear H1
          have H' := Aside0.mk H
          clear H
          go_wp2_with (first | ((with_reducible refine gate_callee (f := 25) rfl ?_); refine goesL_ (some 11) rfl rfl Try.func25 (by kernel_rfl) rfl #[.int .i64 a1, .int .i64 0, .int .i64 99] rfl (by (try simp only [List.map_toArray, List.map_cons, List.map_nil]); first | done | rfl | (simp only [List.length_drop, List.length_take]; rfl)) ?_; (with_reducible refine (clewlaw14_within.calls a1 0 99 true _ A8.out).mono ?_); rintro e w' ⟨rfl, ⟨nd, rfl⟩⟩; refine ⟨_, rfl, ?_⟩; have hcz29_0 : w7.cell? ⟨gb132, 0, none⟩ = some (.int .i64 a0_0) := (blk_cell BK132.out 0).trans rfl; have hcz29_1 : w7.cell? ⟨gb132, 1, none⟩ = some (.int .i64 a0_1) := (blk_cell BK132.out 1).trans rfl; have hcz29_2 : w7.cell? ⟨gb132, 2, none⟩ = some (.int .i64 a0_2) := (blk_cell BK132.out 2).trans rfl; have hcz29_3 : w7.cell? ⟨gb132, 3, none⟩ = some (.int .i64 a0_3) := (blk_cell BK132.out 3).trans rfl; have hcz29_4 : w7.cell? ⟨gb132, 4, none⟩ = some (.int .i64 a0_4) := (blk_cell BK132.out 4).trans rfl; have hcz29_5 : w7.cell? ⟨gb132, 5, none⟩ = some (.int .i64 a0_5) := (blk_cell BK132.out 5).trans rfl; have hcz29_6 : w7.cell? ⟨gb132, 6, none⟩ = some (.int .i64 a0_6) := (blk_cell BK132.out 6).trans rfl; have hcz29_7 : w7.cell? ⟨gb132, 7, none⟩ = some (.slice A0_7 l0_7.length c0_7) := (blk_cell BK132.out 7).trans rfl; have hfz29_0 := blk_frozen BK132.out 0; have hfz29_1 := blk_frozen BK132.out 1; have hfz29_2 := blk_frozen BK132.out 2; have hfz29_3 := blk_frozen BK132.out 3; have hfz29_4 := blk_frozen BK132.out 4; have hfz29_5 := blk_frozen BK132.out 5; have hfz29_6 := blk_frozen BK132.out 6; have hfz29_7 := blk_frozen BK132.out 7) | (go_at_call 25; (with_reducible refine (clewlaw14_within.calls a0_0 1 14 false _ A10.out).mono ?_); rintro e w' ⟨rfl, ⟨nd, rfl⟩⟩))
          go_meet
          case rel => exact ⟨_, (false), (by first | rfl | (simp; done) | (simp [*]; done)), H', ⟨by first | omega | exact Nat.le_refl _⟩, ⟨by (with_reducible repeat (first | refine blk_drewN ?_ _ | refine blk_drew ?_ | refine blk_alloc ?_ _)); exact BK132.out⟩, ⟨by repeat (first | (with_reducible first | exact HB.out | apply below_alloc | apply pw_below_drewN | apply below_drew1 | refine below_set ?_ GE132.out) | exact HB.out)⟩⟩
      · replace c9 := Bool.eq_false_iff.mpr c9
        subst c9
        have H1 : (clewlaw14_EventRight.j0 k a1 false a0_0 a0_1 a0_2 a0_3 a0_4 a0_5 a0_6 l0_7) = some r := by rw [if_neg (show ¬ (false = true) by decide)] at H; exact H
        clear H
        have H := H1
        clear H1
        have H' := Aside0.mk H
        clear H
        go_wp2_with (first | ((with_reducible refine gate_callee (f := 25) rfl ?_); refine goesL_ (some 11) rfl rfl Try.func25 (by kernel_rfl) rfl #[.int .i64 a1, .int .i64 0, .int .i64 99] rfl (by (try simp only [List.map_toArray, List.map_cons, List.map_nil]); first | done | rfl | (simp only [List.length_drop, List.length_take]; rfl)) ?_; (with_reducible refine (clewlaw14_within.calls a1 0 99 false _ A8.out).mono ?_); rintro e w' ⟨rfl, ⟨nd, rfl⟩⟩; refine ⟨_, rfl, ?_⟩))
        go_meet
        case rel => exact ⟨_, (false), (by first | rfl | (simp; done) | (simp [*]; done)), H', ⟨by first | omega | exact Nat.le_refl _⟩, ⟨by (with_reducible repeat (first | refine blk_drewN ?_ _ | refine blk_drew ?_ | refine blk_alloc ?_ _)); exact BK132.out⟩, ⟨by repeat (first | (with_reducible first | exact HB.out | apply below_alloc | apply pw_below_drewN | apply below_drew1 | refine below_set ?_ GE132.out) | exact HB.out)⟩⟩
    case rest =>
      clear HC5
      try clear c1
      try clear c2
      try clear p2
      try clear c4
      try clear c6
      try clear c9
      try clear c11
      try clear c13
      try clear c15
      try clear c17
      try clear c19
      try clear c21
      try clear c25
      try clear hcz23_0
      try clear hcz23_1
      try clear hcz23_2
      try clear hcz23_3
      try clear hcz23_4
      try clear hcz23_5
      try clear hcz23_6
      try clear hcz23_7
      try clear hcz24_0
      try clear hcz24_1
      try clear hcz24_2
      try clear hcz24_3
      try clear hcz24_4
      try clear hcz24_5
      try clear hcz24_6
      try clear hcz24_7
      try clear hcz25_0
      try clear hcz25_1
      try clear hcz25_2
      try clear hcz25_3
      try clear hcz25_4
      try clear hcz25_5
      try clear hcz25_6
      try clear hcz25_7
      try clear hcz26_0
      try clear hcz26_1
      try clear hcz26_2
      try clear hcz26_3
      try clear hcz26_4
      try clear hcz26_5
      try clear hcz26_6
      try clear hcz26_7
      try clear hcz27_0
      try clear hcz27_1
      try clear hcz27_2
      try clear hcz27_3
      try clear hcz27_4
      try clear hcz27_5
      try clear hcz27_6
      try clear hcz27_7
      try clear hcz28_0
      try clear hcz28_1
      try clear hcz28_2
      try clear hcz28_3
      try clear hcz28_4
      try clear hcz28_5
      try clear hcz28_6
      try clear hcz28_7
      try clear hcz29_0
      try clear hcz29_1
      try clear hcz29_2
      try clear hcz29_3
      try clear hcz29_4
      try clear hcz29_5
      try clear hcz29_6
      try clear hcz29_7
      try clear hfz23_0
      try clear hfz23_1
      try clear hfz23_2
      try clear hfz23_3
      try clear hfz23_4
      try clear hfz23_5
      try clear hfz23_6
      try clear hfz23_7
      try clear hfz24_0
      try clear hfz24_1
      try clear hfz24_2
      try clear hfz24_3
      try clear hfz24_4
      try clear hfz24_5
      try clear hfz24_6
      try clear hfz24_7
      try clear hfz25_0
      try clear hfz25_1
      try clear hfz25_2
      try clear hfz25_3
      try clear hfz25_4
      try clear hfz25_5
      try clear hfz25_6
      try clear hfz25_7
      try clear hfz26_0
      try clear hfz26_1
      try clear hfz26_2
      try clear hfz26_3
      try clear hfz26_4
      try clear hfz26_5
      try clear hfz26_6
      try clear hfz26_7
      try clear hfz27_0
      try clear hfz27_1
      try clear hfz27_2
      try clear hfz27_3
      try clear hfz27_4
      try clear hfz27_5
      try clear hfz27_6
      try clear hfz27_7
      try clear hfz28_0
      try clear hfz28_1
      try clear hfz28_2
      try clear hfz28_3
      try clear hfz28_4
      try clear hfz28_5
      try clear hfz28_6
      try clear hfz28_7
      try clear hfz29_0
      try clear hfz29_1
      try clear hfz29_2
      try clear hfz29_3
      try clear hfz29_4
      try clear hfz29_5
      try clear hfz29_6
      try clear hfz29_7
      obtain ⟨kq, x5_4, rfl, HA, HJ4, BK132, HB⟩ := hcut
      cases kq with
      | zero => exact absurd HA.out (by simp [clewlaw14_EventRight.j0])
      | succ kj4 =>
        have H := HA.out
        clear HA
        simp only [clewlaw14_EventRight.j0] at H
        have HC30 := Aside0.mk H
        clear H
        go_upto_region 4 with (fail)
        go_cut [5] (fun v5 wc => ∃ (kq : Nat) (x5_29 : Bool), v5 = .bool x5_29 ∧ Aside0 (clewlaw14_EventRight.j1 kq a1 x5_29 a0_0 a0_1 a0_2 a0_3 a0_4 a0_5 a0_6 l0_7 = some r) ∧ Aside0 (kq ≤ kj4) ∧ Aside0 (wc.heap[gb132]? = some (.cells #[.int .i64 a0_0, .int .i64 a0_1, .int .i64 a0_2, .int .i64 a0_3, .int .i64 a0_4, .int .i64 a0_5, .int .i64 a0_6, (.slice A0_7 l0_7.length c0_7)] 33 (0, 0))) ∧ Aside0 (Below w.heap.size w wc))
        case first =>
          have H := HC30.out
          clear HC30
          by_cases c31 : x5_4 = true
          · subst c31
            have H1 : (clewlaw14_EventRight.j1 kj4 a1 ((l0_7.length : Int) == (wrap64 ((wrap64 (2 * a1)) + 2))) a0_0 a0_1 a0_2 a0_3 a0_4 a0_5 a0_6 l0_7) = some r := by rw [if_pos rfl] at H; exact H
            clear H
            have H := H1
            clear H1
            have H' := Aside0.mk H
            clear H
            have hcz32_0 : wc.cell? ⟨gb132, 0, none⟩ = some (.int .i64 a0_0) := (blk_cell BK132.out 0).trans rfl
            have hcz32_1 : wc.cell? ⟨gb132, 1, none⟩ = some (.int .i64 a0_1) := (blk_cell BK132.out 1).trans rfl
            have hcz32_2 : wc.cell? ⟨gb132, 2, none⟩ = some (.int .i64 a0_2) := (blk_cell BK132.out 2).trans rfl
            have hcz32_3 : wc.cell? ⟨gb132, 3, none⟩ = some (.int .i64 a0_3) := (blk_cell BK132.out 3).trans rfl
            have hcz32_4 : wc.cell? ⟨gb132, 4, none⟩ = some (.int .i64 a0_4) := (blk_cell BK132.out 4).trans rfl
            have hcz32_5 : wc.cell? ⟨gb132, 5, none⟩ = some (.int .i64 a0_5) := (blk_cell BK132.out 5).trans rfl
            have hcz32_6 : wc.cell? ⟨gb132, 6, none⟩ = some (.int .i64 a0_6) := (blk_cell BK132.out 6).trans rfl
            have hcz32_7 : wc.cell? ⟨gb132, 7, none⟩ = some (.slice A0_7 l0_7.length c0_7) := (blk_cell BK132.out 7).trans rfl
            have hfz32_0 := blk_frozen BK132.out 0
            have hfz32_1 := blk_frozen BK132.out 1
            have hfz32_2 := blk_frozen BK132.out 2
            have hfz32_3 := blk_frozen BK132.out 3
            have hfz32_4 := blk_frozen BK132.out 4
            have hfz32_5 := blk_frozen BK132.out 5
            have hfz32_6 := blk_frozen BK132.out 6
            have hfz32_7 := blk_frozen BK132.out 7
            go_wp2
            go_meet
            case rel => exact ⟨_, (((l0_7.length : Int) == (wrap64 ((wrap64 (2 * a1)) + 2)))), (by first | rfl | (simp; done) | (simp [*]; done)), H', ⟨by have := HJ4.out; first | omega | exact Nat.le_refl _⟩, ⟨by (with_reducible repeat (first | refine blk_drewN ?_ _ | refine blk_drew ?_ | refine blk_alloc ?_ _)); exact BK132.out⟩, ⟨by repeat (first | (with_reducible first | exact HB.out | apply below_alloc | apply pw_below_drewN | apply below_drew1 | refine below_set ?_ GE132.out) | exact HB.out)⟩⟩
          · replace c31 := Bool.eq_false_iff.mpr c31
            subst c31
            have H1 : (clewlaw14_EventRight.j1 kj4 a1 false a0_0 a0_1 a0_2 a0_3 a0_4 a0_5 a0_6 l0_7) = some r := by rw [if_neg (show ¬ (false = true) by decide)] at H; exact H
            clear H
            have H := H1
            clear H1
            have H' := Aside0.mk H
            clear H
            go_wp2
            go_meet
            case rel => exact ⟨_, (false), (by first | rfl | (simp; done) | (simp [*]; done)), H', ⟨by have := HJ4.out; first | omega | exact Nat.le_refl _⟩, ⟨by (with_reducible repeat (first | refine blk_drewN ?_ _ | refine blk_drew ?_ | refine blk_alloc ?_ _)); exact BK132.out⟩, ⟨by repeat (first | (with_reducible first | exact HB.out | apply below_alloc | apply pw_below_drewN | apply below_drew1 | refine below_set ?_ GE132.out) | exact HB.out)⟩⟩
        case rest =>
          clear HC30
          try clear c1
          try clear c2
          try clear p2
          try clear c3
          try clear c4
          try clear c6
          try clear p6
          try clear c9
          try clear c11
          try clear c13
          try clear c15
          try clear c17
          try clear c19
          try clear c21
          try clear c25
          try clear c31
          try clear hcz23_0
          try clear hcz23_1
          try clear hcz23_2
          try clear hcz23_3
          try clear hcz23_4
          try clear hcz23_5
          try clear hcz23_6
          try clear hcz23_7
          try clear hcz24_0
          try clear hcz24_1
          try clear hcz24_2
          try clear hcz24_3
          try clear hcz24_4
          try clear hcz24_5
          try clear hcz24_6
          try clear hcz24_7
          try clear hcz25_0
          try clear hcz25_1
          try clear hcz25_2
          try clear hcz25_3
          try clear hcz25_4
          try clear hcz25_5
          try clear hcz25_6
          try clear hcz25_7
          try clear hcz26_0
          try clear hcz26_1
          try clear hcz26_2
          try clear hcz26_3
          try clear hcz26_4
          try clear hcz26_5
          try clear hcz26_6
          try clear hcz26_7
          try clear hcz27_0
          try clear hcz27_1
          try clear hcz27_2
          try clear hcz27_3
          try clear hcz27_4
          try clear hcz27_5
          try clear hcz27_6
          try clear hcz27_7
          try clear hcz28_0
          try clear hcz28_1
          try clear hcz28_2
          try clear hcz28_3
          try clear hcz28_4
          try clear hcz28_5
          try clear hcz28_6
          try clear hcz28_7
          try clear hcz29_0
          try clear hcz29_1
          try clear hcz29_2
          try clear hcz29_3
          try clear hcz29_4
          try clear hcz29_5
          try clear hcz29_6
          try clear hcz29_7
          try clear hcz32_0
          try clear hcz32_1
          try clear hcz32_2
          try clear hcz32_3
          try clear hcz32_4
          try clear hcz32_5
          try clear hcz32_6
          try clear hcz32_7
          try clear hfz23_0
          try clear hfz23_1
          try clear hfz23_2
          try clear hfz23_3
          try clear hfz23_4
          try clear hfz23_5
          try clear hfz23_6
          try clear hfz23_7
          try clear hfz24_0
          try clear hfz24_1
          try clear hfz24_2
          try clear hfz24_3
          try clear hfz24_4
          try clear hfz24_5
          try clear hfz24_6
          try clear hfz24_7
          try clear hfz25_0
          try clear hfz25_1
          try clear hfz25_2
          try clear hfz25_3
          try clear hfz25_4
          try clear hfz25_5
          try clear hfz25_6
          try clear hfz25_7
          try clear hfz26_0
          try clear hfz26_1
          try clear hfz26_2
          try clear hfz26_3
          try clear hfz26_4
          try clear hfz26_5
          try clear hfz26_6
          try clear hfz26_7
          try clear hfz27_0
          try clear hfz27_1
          try clear hfz27_2
          try clear hfz27_3
          try clear hfz27_4
          try clear hfz27_5
          try clear hfz27_6
          try clear hfz27_7
          try clear hfz28_0
          try clear hfz28_1
          try clear hfz28_2
          try clear hfz28_3
          try clear hfz28_4
          try clear hfz28_5
          try clear hfz28_6
          try clear hfz28_7
          try clear hfz29_0
          try clear hfz29_1
          try clear hfz29_2
          try clear hfz29_3
          try clear hfz29_4
          try clear hfz29_5
          try clear hfz29_6
          try clear hfz29_7
          try clear hfz32_0
          try clear hfz32_1
          try clear hfz32_2
          try clear hfz32_3
          try clear hfz32_4
          try clear hfz32_5
          try clear hfz32_6
          try clear hfz32_7
          try clear p2
          obtain ⟨kq, x5_29, rfl, HA, HJ29, BK132, HB⟩ := hcut
          cases kq with
          | zero => exact absurd HA.out (by simp [clewlaw14_EventRight.j1])
          | succ kj29 =>
            have H := HA.out
            clear HA
            simp only [clewlaw14_EventRight.j1] at H
            have H' := Aside0.mk H
            clear H
            have hcz33_0 : wc.cell? ⟨gb132, 0, none⟩ = some (.int .i64 a0_0) := (blk_cell BK132.out 0).trans rfl
            have hcz33_1 : wc.cell? ⟨gb132, 1, none⟩ = some (.int .i64 a0_1) := (blk_cell BK132.out 1).trans rfl
            have hcz33_2 : wc.cell? ⟨gb132, 2, none⟩ = some (.int .i64 a0_2) := (blk_cell BK132.out 2).trans rfl
            have hcz33_3 : wc.cell? ⟨gb132, 3, none⟩ = some (.int .i64 a0_3) := (blk_cell BK132.out 3).trans rfl
            have hcz33_4 : wc.cell? ⟨gb132, 4, none⟩ = some (.int .i64 a0_4) := (blk_cell BK132.out 4).trans rfl
            have hcz33_5 : wc.cell? ⟨gb132, 5, none⟩ = some (.int .i64 a0_5) := (blk_cell BK132.out 5).trans rfl
            have hcz33_6 : wc.cell? ⟨gb132, 6, none⟩ = some (.int .i64 a0_6) := (blk_cell BK132.out 6).trans rfl
            have hcz33_7 : wc.cell? ⟨gb132, 7, none⟩ = some (.slice A0_7 l0_7.length c0_7) := (blk_cell BK132.out 7).trans rfl
            have hfz33_0 := blk_frozen BK132.out 0
            have hfz33_1 := blk_frozen BK132.out 1
            have hfz33_2 := blk_frozen BK132.out 2
            have hfz33_3 := blk_frozen BK132.out 3
            have hfz33_4 := blk_frozen BK132.out 4
            have hfz33_5 := blk_frozen BK132.out 5
            have hfz33_6 := blk_frozen BK132.out 6
            have hfz33_7 := blk_frozen BK132.out 7
            go_wp2
            go_loopg [5, 60] kj29 (fun kq v5 v60 w' => ∃ (x5_3 : Bool) (x60_3 : Int), v5 = .bool x5_3 ∧ v60 = .int .i64 x60_3 ∧ Aside0 (clewlaw14_EventRight.l0 kq a1 x5_3 l0_7 (l0_7.length : Int) x60_3 a0_0 a0_1 a0_2 a0_3 a0_4 a0_5 a0_6 l0_7 = some r) ∧ Aside0 (kq ≤ kj29) ∧ Aside0 (w'.heap[gb132]? = some (.cells #[.int .i64 a0_0, .int .i64 a0_1, .int .i64 a0_2, .int .i64 a0_3, .int .i64 a0_4, .int .i64 a0_5, .int .i64 a0_6, (.slice A0_7 l0_7.length c0_7)] 33 (0, 0))) ∧ Aside0 (Below w.heap.size w w'))
            case atStart => exact ⟨(x5_29), (0), (by first | rfl | (simp; done) | (simp [*]; done)), (by first | rfl | (simp; done) | (simp [*]; done)), H', ⟨Nat.le_refl _⟩, ⟨by (with_reducible repeat (first | refine blk_drewN ?_ _ | refine blk_drew ?_ | refine blk_alloc ?_ _)); exact BK132.out⟩, ⟨by repeat (first | (with_reducible first | exact HB.out | apply below_alloc | apply pw_below_drewN | apply below_drew1 | refine below_set ?_ GE132.out) | exact HB.out)⟩⟩
            case round =>
              clear H'
              try clear c1
              try clear c2
              try clear p2
              try clear c3
              try clear c4
              try clear c6
              try clear p6
              try clear c9
              try clear c11
              try clear c13
              try clear c15
              try clear c17
              try clear c19
              try clear c21
              try clear c25
              try clear c31
              try clear hcz23_0
              try clear hcz23_1
              try clear hcz23_2
              try clear hcz23_3
              try clear hcz23_4
              try clear hcz23_5
              try clear hcz23_6
              try clear hcz23_7
              try clear hcz24_0
              try clear hcz24_1
              try clear hcz24_2
              try clear hcz24_3
              try clear hcz24_4
              try clear hcz24_5
              try clear hcz24_6
              try clear hcz24_7
              try clear hcz25_0
              try clear hcz25_1
              try clear hcz25_2
              try clear hcz25_3
              try clear hcz25_4
              try clear hcz25_5
              try clear hcz25_6
              try clear hcz25_7
              try clear hcz26_0
              try clear hcz26_1
              try clear hcz26_2
              try clear hcz26_3
              try clear hcz26_4
              try clear hcz26_5
              try clear hcz26_6
              try clear hcz26_7
              try clear hcz27_0
              try clear hcz27_1
              try clear hcz27_2
              try clear hcz27_3
              try clear hcz27_4
              try clear hcz27_5
              try clear hcz27_6
              try clear hcz27_7
              try clear hcz28_0
              try clear hcz28_1
              try clear hcz28_2
              try clear hcz28_3
              try clear hcz28_4
              try clear hcz28_5
              try clear hcz28_6
              try clear hcz28_7
              try clear hcz29_0
              try clear hcz29_1
              try clear hcz29_2
              try clear hcz29_3
              try clear hcz29_4
              try clear hcz29_5
              try clear hcz29_6
              try clear hcz29_7
              try clear hcz32_0
              try clear hcz32_1
              try clear hcz32_2
              try clear hcz32_3
              try clear hcz32_4
              try clear hcz32_5
              try clear hcz32_6
              try clear hcz32_7
              try clear hcz33_0
              try clear hcz33_1
              try clear hcz33_2
              try clear hcz33_3
              try clear hcz33_4
              try clear hcz33_5
              try clear hcz33_6
              try clear hcz33_7
              try clear hfz23_0
              try clear hfz23_1
              try clear hfz23_2
              try clear hfz23_3
              try clear hfz23_4
              try clear hfz23_5
              try clear hfz23_6
              try clear hfz23_7
              try clear hfz24_0
              try clear hfz24_1
              try clear hfz24_2
              try clear hfz24_3
              try clear hfz24_4
              try clear hfz24_5
              try clear hfz24_6
              try clear hfz24_7
              try clear hfz25_0
              try clear hfz25_1
              try clear hfz25_2
              try clear hfz25_3
              try clear hfz25_4
              try clear hfz25_5
              try clear hfz25_6
              try clear hfz25_7
              try clear hfz26_0
              try clear hfz26_1
              try clear hfz26_2
              try clear hfz26_3
              try clear hfz26_4
              try clear hfz26_5
              try clear hfz26_6
              try clear hfz26_7
              try clear hfz27_0
              try clear hfz27_1
              try clear hfz27_2
              try clear hfz27_3
              try clear hfz27_4
              try clear hfz27_5
              try clear hfz27_6
              try clear hfz27_7
              try clear hfz28_0
              try clear hfz28_1
              try clear hfz28_2
              try clear hfz28_3
              try clear hfz28_4
              try clear hfz28_5
              try clear hfz28_6
              try clear hfz28_7
              try clear hfz29_0
              try clear hfz29_1
              try clear hfz29_2
              try clear hfz29_3
              try clear hfz29_4
              try clear hfz29_5
              try clear hfz29_6
              try clear hfz29_7
              try clear hfz32_0
              try clear hfz32_1
              try clear hfz32_2
              try clear hfz32_3
              try clear hfz32_4
              try clear hfz32_5
              try clear hfz32_6
              try clear hfz32_7
              try clear hfz33_0
              try clear hfz33_1
              try clear hfz33_2
              try clear hfz33_3
              try clear hfz33_4
              try clear hfz33_5
              try clear hfz33_6
              try clear hfz33_7
              try clear p2
              try clear p6
              obtain ⟨x5_3, x60_3, rfl, rfl, HA, HK3, BK132, HB⟩ := hrel
              cases gk with
              | zero => exact absurd HA.out (by simp [clewlaw14_EventRight.l0])
              | succ k3 =>
                have H := HA.out
                clear HA
                simp only [clewlaw14_EventRight.l0] at H
                by_cases c34 : x60_3 < (l0_7.length : Int)
                · rw [if_pos c34] at H
                  have c34b0 : decide (x60_3 < (l0_7.length : Int)) = true := decide_eq_true c34
                  clear c34
                  by_cases c35 : 0 ≤ x60_3
                  · rw [if_pos c35] at H
                    have c35b0 : decide (0 ≤ x60_3) = true := decide_eq_true c35
                    clear c35
                    by_cases c36 : x60_3 < (l0_7.length : Int)
                    · rw [if_pos c36] at H
                      have c36b0 : decide (x60_3 < (l0_7.length : Int)) = true := decide_eq_true c36
                      clear c36
                      by_cases c37 : x5_3 = true
                      · subst c37
                        have H1 : ((clewlaw14_within.f (rd l0_7 x60_3) (-1) 65536).bind fun t143 => (clewlaw14_EventRight.l0 k3 a1 t143 l0_7 (l0_7.length : Int) (wrap64 (x60_3 + 1)) a0_0 a0_1 a0_2 a0_3 a0_4 a0_5 a0_6 l0_7)) = some r := by rw [if_pos rfl] at H; exact H
                        clear H
                        have H := H1
                        clear H1
                        replace H := Option.bind_eq_some_iff.mp H
                        obtain ⟨t143, A380, H⟩ := H
                        replace H : (clewlaw14_EventRight.l0 k3 a1 t143 l0_7 (l0_7.length : Int) (wrap64 (x60_3 + 1)) a0_0 a0_1 a0_2 a0_3 a0_4 a0_5 a0_6 l0_7) = some r := H
                        have A38 := Aside0.mk A380
                        clear A380
                        have H' := Aside0.mk H
                        clear H
                        have p142 : 0 ≤ (x60_3 : Int) := of_decide_eq_true (by first | (with_reducible assumption) | assumption)
                        have q142 : x60_3 < (l0_7.length : Int) := of_decide_eq_true (by first | (with_reducible assumption) | assumption)
                        obtain ⟨ad142, e142, hx142_0⟩ := Kd.at_int HR0_7.out x60_3 p142 q142
                        cases e142
                        replace hx142_0 := (HB.out.cell (World.block_lt_of_cell? w _ hx142_0)).trans hx142_0
                        replace p142 := eq_true p142
                        replace q142 := eq_true q142
                        go_wp2_with (first | (go_at_call 25; (with_reducible refine (clewlaw14_within.calls (rd l0_7 x60_3) (-1) 65536 t143 _ A38.out).mono ?_); rintro e w' ⟨rfl, ⟨nd, rfl⟩⟩))
                        go_roundg k3
                        case measure => have := HJ4.out; have := HJ29.out; have := HK3.out; omega
                        case rel => exact ⟨(t143), (wrap64 (x60_3 + 1)), (by first | rfl | (simp; done) | (simp [*]; done)), (by first | rfl | (simp; done) | (simp [*]; done)), H', ⟨by have := HJ4.out; have := HJ29.out; have := HK3.out; omega⟩, ⟨by (with_reducible repeat (first | refine blk_drewN ?_ _ | refine blk_drew ?_ | refine blk_alloc ?_ _)); exact BK132.out⟩, ⟨by repeat (first | (with_reducible first | exact HB.out | apply below_alloc | apply pw_below_drewN | apply below_drew1 | refine below_set ?_ GE132.out) | exact HB.out)⟩⟩
                      · replace c37 := Bool.eq_false_iff.mpr c37
                        subst c37
                        have H1 : (clewlaw14_EventRight.l0 k3 a1 false l0_7 (l0_7.length : Int) (wrap64 (x60_3 + 1)) a0_0 a0_1 a0_2 a0_3 a0_4 a0_5 a0_6 l0_7) = some r := by rw [if_neg (show ¬ (false = true) by decide)] at H; exact H
                        clear H
                        have H := H1
                        clear H1
                        have H' := Aside0.mk H
                        clear H
                        have p142 : 0 ≤ (x60_3 : Int) := of_decide_eq_true (by first | (with_reducible assumption) | assumption)
                        have q142 : x60_3 < (l0_7.length : Int) := of_decide_eq_true (by first | (with_reducible assumption) | assumption)
                        obtain ⟨ad142, e142, hx142_0⟩ := Kd.at_int HR0_7.out x60_3 p142 q142
                        cases e142
                        replace hx142_0 := (HB.out.cell (World.block_lt_of_cell? w _ hx142_0)).trans hx142_0
                        replace p142 := eq_true p142
                        replace q142 := eq_true q142
                        go_wp2
                        go_roundg k3
                        case measure => have := HJ4.out; have := HJ29.out; have := HK3.out; omega
                        case rel => exact ⟨(false), (wrap64 (x60_3 + 1)), (by first | rfl | (simp; done) | (simp [*]; done)), (by first | rfl | (simp; done) | (simp [*]; done)), H', ⟨by have := HJ4.out; have := HJ29.out; have := HK3.out; omega⟩, ⟨by (with_reducible repeat (first | refine blk_drewN ?_ _ | refine blk_drew ?_ | refine blk_alloc ?_ _)); exact BK132.out⟩, ⟨by repeat (first | (with_reducible first | exact HB.out | apply below_alloc | apply pw_below_drewN | apply below_drew1 | refine below_set ?_ GE132.out) | exact HB.out)⟩⟩
                    · rw [if_neg c36] at H
                      exact absurd H (by simp)
                  · rw [if_neg c35] at H
                    exact absurd H (by simp)
                · rw [if_neg c34] at H
                  have c34b0 : decide (x60_3 < (l0_7.length : Int)) = false := decide_eq_false c34
                  clear c34
                  replace H := Option.bind_eq_some_iff.mp H
                  obtain ⟨t144, A390, H⟩ := H
                  replace H : (some (t144 == x5_3)) = some r := H
                  have A39 := Aside0.mk A390
                  clear A390
                  obtain rfl := Option.some.inj H
                  have hcz40_0 : wr.cell? ⟨gb132, 0, none⟩ = some (.int .i64 a0_0) := (blk_cell BK132.out 0).trans rfl
                  have hcz40_1 : wr.cell? ⟨gb132, 1, none⟩ = some (.int .i64 a0_1) := (blk_cell BK132.out 1).trans rfl
                  have hcz40_2 : wr.cell? ⟨gb132, 2, none⟩ = some (.int .i64 a0_2) := (blk_cell BK132.out 2).trans rfl
                  have hcz40_3 : wr.cell? ⟨gb132, 3, none⟩ = some (.int .i64 a0_3) := (blk_cell BK132.out 3).trans rfl
                  have hcz40_4 : wr.cell? ⟨gb132, 4, none⟩ = some (.int .i64 a0_4) := (blk_cell BK132.out 4).trans rfl
                  have hcz40_5 : wr.cell? ⟨gb132, 5, none⟩ = some (.int .i64 a0_5) := (blk_cell BK132.out 5).trans rfl
                  have hcz40_6 : wr.cell? ⟨gb132, 6, none⟩ = some (.int .i64 a0_6) := (blk_cell BK132.out 6).trans rfl
                  have hcz40_7 : wr.cell? ⟨gb132, 7, none⟩ = some (.slice A0_7 l0_7.length c0_7) := (blk_cell BK132.out 7).trans rfl
                  have hfz40_0 := blk_frozen BK132.out 0
                  have hfz40_1 := blk_frozen BK132.out 1
                  have hfz40_2 := blk_frozen BK132.out 2
                  have hfz40_3 := blk_frozen BK132.out 3
                  have hfz40_4 := blk_frozen BK132.out 4
                  have hfz40_5 := blk_frozen BK132.out 5
                  have hfz40_6 := blk_frozen BK132.out 6
                  have hfz40_7 := blk_frozen BK132.out 7
                  go_wp2_with (first | ((with_reducible refine gate_callee (f := 26) rfl ?_); refine goesL_ (some 72) rfl rfl Try.func26 (by kernel_rfl) rfl #[.agg #[.int .i64 a0_0, .int .i64 a0_1, .int .i64 a0_2, .int .i64 a0_3, .int .i64 a0_4, .int .i64 a0_5, .int .i64 a0_6, .slice A0_7 l0_7.length c0_7], .int .i64 a1] rfl (by (try simp only [List.map_toArray, List.map_cons, List.map_nil]); first | done | rfl | (simp only [List.length_drop, List.length_take]; rfl)) ?_; (with_reducible refine (event_State_Right.calls k3 a0_0 a0_1 a0_2 a0_3 a0_4 a0_5 a0_6 _ _ l0_7 a1 t144 _ ?side1 ?side2 A39.out).mono ?_); (case side1 => repeat (first | exact (Kd.C_below HR0_7.out HB.out) | (with_reducible refine Kd.C_alloc ?_ _) | (with_reducible refine Kd.C_drewN ?_ _) | (with_reducible refine Kd.C_drew ?_))); (case side2 => exact HC0_7.out); rintro e w41 ⟨rfl, hb⟩; refine ⟨_, rfl, ?_⟩; have n0_ := Aside0.mk (blk_below (g := gb132) (o := .cells #[.int .i64 a0_0, .int .i64 a0_1, .int .i64 a0_2, .int .i64 a0_3, .int .i64 a0_4, .int .i64 a0_5, .int .i64 a0_6, .slice A0_7 l0_7.length c0_7] 33 (0, 0)) (by (with_reducible repeat (first | refine blk_drewN ?_ _ | refine blk_drew ?_ | refine blk_alloc ?_ _)); exact BK132.out) hb); have n1_ := Aside0.mk (below_step (by repeat (first | (with_reducible first | exact HB.out | apply below_alloc | apply pw_below_drewN | apply below_drew1 | refine below_set ?_ GE132.out) | exact HB.out)) hb); clear BK132; clear HB; have BK132 := n0_; have HB := n1_; clear n0_ n1_; (try clear hb); (try clear hb2); (try clear hk); (try clear hi)))
                  go_ret
                  exact ⟨by first | rfl | (simp [errW_none, errW_some] <;> rfl) | (simp [*, errW_none, errW_some] <;> rfl), by repeat (first | (with_reducible first | exact HB.out | apply below_alloc | apply pw_below_drewN | apply below_drew1 | refine below_set ?_ GE132.out) | exact HB.out)⟩
  · replace c4 := Bool.eq_false_iff.mpr c4
    subst c4
    have H1 : (some false) = some r := by rw [if_neg (show ¬ (false = true) by decide)] at H; exact H
    clear H
    have H := H1
    clear H1
    obtain rfl := Option.some.inj H
    go_enter Try.func6, Try.ntmps6
    go_wp2_with (first | ((with_reducible refine gate_dst (N := 2) rfl ?_); (try (refine gate_guard (by rfl) ?_; dsimp only)); refine box_event ?hg (N := 2) ?hd (cs := #[.int .i64 a0_0, .int .i64 a0_1, .int .i64 a0_2, .int .i64 a0_3, .int .i64 a0_4, .int .i64 a0_5, .int .i64 a0_6, .slice A0_7 l0_7.length c0_7]) (t := 33) ?hr ?_; (case hd => rfl); (case hg => rfl); (case hr => first | (go_simp; done) | (go_simp; rfl)); intro gb132 hg w42 hbox hb; have n0_ := Aside0.mk (below_step (by repeat (first | (with_reducible first | exact HB.out | apply below_alloc | apply pw_below_drewN | apply below_drew1) | exact HB.out)) hb); have n1_ := Aside0.mk (hbox); have n2_ := Aside0.mk ((by rw [hg]; exact (below_size (by repeat (first | (with_reducible first | exact HB.out | apply below_alloc | apply pw_below_drewN | apply below_drew1) | exact HB.out))) : w.heap.size ≤ gb132)); have n3_ := Aside0.mk ((by rw [hg]; exact (below_size (by repeat (first | (with_reducible first | exact HB.out | apply below_alloc | apply pw_below_drewN | apply below_drew1) | exact HB.out))) : w.heap.size ≤ gb132)); clear HB; have HB := n0_; have BK132 := n1_; have GW132 := n2_; have GE132 := n3_; clear n0_ n1_ n2_ n3_; clear hb hbox hg) | ((with_reducible refine gate_callee (f := 21) rfl ?_); refine goesL_ (some 8) rfl rfl Try.func21 (by kernel_rfl) rfl #[] rfl (by (try simp only [List.map_toArray, List.map_cons, List.map_nil]); first | done | rfl | (simp only [List.length_drop, List.length_take]; rfl)) ?_; (with_reducible refine (clewlaw14_anchor.calls k  false _ A3.out).mono ?_); rintro e w43 ⟨rfl, hb⟩; refine ⟨_, rfl, ?_⟩; have n0_ := Aside0.mk (blk_below (g := gb132) (o := .cells #[.int .i64 a0_0, .int .i64 a0_1, .int .i64 a0_2, .int .i64 a0_3, .int .i64 a0_4, .int .i64 a0_5, .int .i64 a0_6, .slice A0_7 l0_7.length c0_7] 33 (0, 0)) (by (with_reducible repeat (first | refine blk_drewN ?_ _ | refine blk_drew ?_ | refine blk_alloc ?_ _)); exact BK132.out) hb); have n1_ := Aside0.mk (below_step (by repeat (first | (with_reducible first | exact HB.out | apply below_alloc | apply pw_below_drewN | apply below_drew1 | refine below_set ?_ GE132.out) | exact HB.out)) hb); clear BK132; clear HB; have BK132 := n0_; have HB := n1_; clear n0_ n1_; (try clear hb); (try clear hb2); (try clear hk); (try clear hi)))
    go_ret
    exact ⟨by first | rfl | (simp [errW_none, errW_some] <;> rfl) | (simp [*, errW_none, errW_some] <;> rfl), by repeat (first | (with_reducible first | exact HB.out | apply below_alloc | apply pw_below_drewN | apply below_drew1 | refine below_set ?_ GE132.out) | exact HB.out)⟩

end Go.Proofs.Ytecfnbnngdpfiaa.PEventRight
