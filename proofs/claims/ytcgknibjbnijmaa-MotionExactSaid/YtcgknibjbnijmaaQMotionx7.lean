-- Printed by wip/tools/myprint.py (this session's program over the kit's printer).
import Derived.Test.YtcgknibjbnijmaaQMotionx0
import Derived.Test.YtcgknibjbnijmaaQMotionx1
import Derived.Test.YtcgknibjbnijmaaQMotionx3
import Derived.Test.YtcgknibjbnijmaaQMotionx4
import Derived.Test.YtcgknibjbnijmaaQMotionx5
import Derived.Test.YtcgknibjbnijmaaQMotionx6
namespace Go.Proofs.Ytcgknibjbnijmaa.QMotion
open Go.RowKit Go.Proofs.YtcgknibjbnijmaaW.PrintWords Go.Proofs.YtcgknibjbnijmaaW.PrintLast Go.Proofs.YtcgknibjbnijmaaW.PrintMore
attribute [local go_sem] max2_int min2_int max_two min_two max_three min_three max_four min_four   -- for this text's walks alone
set_option linter.unusedVariables false
set_option linter.unusedSimpArgs false

attribute [local go_sem high] eqA33
/-! ### gimballaw21_MotionExact: function 5 -/
mutual
def gimballaw21_MotionExact.l0 : Nat → List (S36) → Int → Option (Bool)
  | 0, _, _ => none
  | k + 1, x0, x3 => if x3 < (x0.length : Int) then (gimballaw21_MotionExact.j1 k x0 x3 (decide (x3 < 100))) else (gimballaw21_MotionExact.j1 k x0 x3 false)
def gimballaw21_MotionExact.j1 : Nat → List (S36) → Int → Bool → Option (Bool)
  | 0, _, _, _ => none
  | k + 1, x0, x3, x18 => if x18 = true then (if 0 ≤ x3 then (if x3 < (x0.length : Int) then ((gimbalref15_MayMotion.f k ((rd_T36 x0 x3).f0.f0) ((rd_T36 x0 x3).f0.f1) ((rd_T36 x0 x3).f0.f2) ((rd_T36 x0 x3).f0.f3) ((rd_T36 x0 x3).f0.f4) ((rd_T36 x0 x3).f0.f5)).bind fun t156 => (if t156 = true then ((gimbalref15_Mag.f ((rd_T36 x0 x3).f1)).bind fun t157 => (if t157 = true then ((gimbalref0_Time.f ((rd_T36 x0 x3).f2)).bind fun t158 => (if t158 = true then (gimballaw21_MotionExact.j2 k x0 x3 1 false (decide (((rd_T36 x0 x3).f2) ≥ ((rd_T36 x0 x3).f0.f1))) ((rd_T36 x0 x3).f0.f0) ((rd_T36 x0 x3).f0.f1) ((rd_T36 x0 x3).f0.f2) ((rd_T36 x0 x3).f0.f3) ((rd_T36 x0 x3).f0.f4) ((rd_T36 x0 x3).f0.f5) ((rd_T36 x0 x3).f1) ((rd_T36 x0 x3).f2) false 0 0 0 0 false) else (gimballaw21_MotionExact.j2 k x0 x3 1 false false ((rd_T36 x0 x3).f0.f0) ((rd_T36 x0 x3).f0.f1) ((rd_T36 x0 x3).f0.f2) ((rd_T36 x0 x3).f0.f3) ((rd_T36 x0 x3).f0.f4) ((rd_T36 x0 x3).f0.f5) ((rd_T36 x0 x3).f1) ((rd_T36 x0 x3).f2) false 0 0 0 0 false))) else (gimballaw21_MotionExact.j2 k x0 x3 1 false false ((rd_T36 x0 x3).f0.f0) ((rd_T36 x0 x3).f0.f1) ((rd_T36 x0 x3).f0.f2) ((rd_T36 x0 x3).f0.f3) ((rd_T36 x0 x3).f0.f4) ((rd_T36 x0 x3).f0.f5) ((rd_T36 x0 x3).f1) ((rd_T36 x0 x3).f2) false 0 0 0 0 false))) else (gimballaw21_MotionExact.j2 k x0 x3 1 false false ((rd_T36 x0 x3).f0.f0) ((rd_T36 x0 x3).f0.f1) ((rd_T36 x0 x3).f0.f2) ((rd_T36 x0 x3).f0.f3) ((rd_T36 x0 x3).f0.f4) ((rd_T36 x0 x3).f0.f5) ((rd_T36 x0 x3).f1) ((rd_T36 x0 x3).f2) false 0 0 0 0 false))) else (none)) else (none)) else ((gimballaw21_wakes.f k).bind fun t152 => (some t152))
def gimballaw21_MotionExact.j2 : Nat → List (S36) → Int → Int → Bool → Bool → Bool → Int → Int → Int → Int → Bool → Int → Int → Bool → Int → Int → Int → Int → Bool → Option (Bool)
  | 0, _, _, _, _, _, _, _, _, _, _, _, _, _, _, _, _, _, _, _ => none
  | k + 1, x0, x3, x5, x7, x45, x155000, x155001, x155002, x155003, x155004, x155005, x155006, x155007, x156000, x156001, x156002, x156003, x156004, x156005 => if x45 = true then ((gimbalref15_Motion.f k x155000 x155001 x155002 x155003 x155004 x155005 x155006 x155007).bind fun bt159 => (gimballaw21_MotionExact.j3 k x0 x3 0 bt159.2.2.2.2.2.2 x155000 x155001 x155002 x155003 x155004 x155005 x155006 x155007 bt159.1 bt159.2.1 bt159.2.2.1 bt159.2.2.2.1 bt159.2.2.2.2.1 bt159.2.2.2.2.2.1)) else (gimballaw21_MotionExact.j3 k x0 x3 x5 x7 x155000 x155001 x155002 x155003 x155004 x155005 x155006 x155007 x156000 x156001 x156002 x156003 x156004 x156005)
def gimballaw21_MotionExact.j3 : Nat → List (S36) → Int → Int → Bool → Bool → Int → Int → Int → Int → Bool → Int → Int → Bool → Int → Int → Int → Int → Bool → Option (Bool)
  | 0, _, _, _, _, _, _, _, _, _, _, _, _, _, _, _, _, _, _ => none
  | k + 1, x0, x3, x5, x7, x155000, x155001, x155002, x155003, x155004, x155005, x155006, x155007, x156000, x156001, x156002, x156003, x156004, x156005 => (motion_Take.f k x155000 x155001 x155002 x155003 x155004 x155005 x155006 x155007).bind fun bt166 => ((gimballaw21_num.f bt166.2.2.2.2.2.2.2).bind fun t175 => (if t175 = x5 then (if (!(bt166.1 == x156000) || (!(bt166.2.1 == x156001) || (!(bt166.2.2.1 == x156002) || (!(bt166.2.2.2.1 == x156003) || (!(bt166.2.2.2.2.1 == x156004) || (!(bt166.2.2.2.2.2.1 == x156005))))))) = true then (some false) else (if (bt166.2.2.2.2.2.2.1 != x7) = true then (some false) else (gimballaw21_MotionExact.l0 k x0 (wrap64 (x3 + 1))))) else (some false)))
end
def gimballaw21_MotionExact.f (k : Nat) (l0 : List (S36)) : Option (Bool) := gimballaw21_MotionExact.l0 k l0 0
theorem gimballaw21_MotionExact.mono_l : ∀ k, (∀ y0 y1, LeO (gimballaw21_MotionExact.l0 k y0 y1) (gimballaw21_MotionExact.l0 (k + 1) y0 y1)) ∧ (∀ y0 y1 y2, LeO (gimballaw21_MotionExact.j1 k y0 y1 y2) (gimballaw21_MotionExact.j1 (k + 1) y0 y1 y2)) ∧ (∀ y0 y1 y2 y3 y4 y5 y6 y7 y8 y9 y10 y11 y12 y13 y14 y15 y16 y17 y18, LeO (gimballaw21_MotionExact.j2 k y0 y1 y2 y3 y4 y5 y6 y7 y8 y9 y10 y11 y12 y13 y14 y15 y16 y17 y18) (gimballaw21_MotionExact.j2 (k + 1) y0 y1 y2 y3 y4 y5 y6 y7 y8 y9 y10 y11 y12 y13 y14 y15 y16 y17 y18)) ∧ (∀ y0 y1 y2 y3 y4 y5 y6 y7 y8 y9 y10 y11 y12 y13 y14 y15 y16 y17, LeO (gimballaw21_MotionExact.j3 k y0 y1 y2 y3 y4 y5 y6 y7 y8 y9 y10 y11 y12 y13 y14 y15 y16 y17) (gimballaw21_MotionExact.j3 (k + 1) y0 y1 y2 y3 y4 y5 y6 y7 y8 y9 y10 y11 y12 y13 y14 y15 y16 y17))
  | 0 => ⟨fun _ _ r h => by simp [gimballaw21_MotionExact.l0] at h, fun _ _ _ r h => by simp [gimballaw21_MotionExact.j1] at h, fun _ _ _ _ _ _ _ _ _ _ _ _ _ _ _ _ _ _ _ r h => by simp [gimballaw21_MotionExact.j2] at h, fun _ _ _ _ _ _ _ _ _ _ _ _ _ _ _ _ _ _ r h => by simp [gimballaw21_MotionExact.j3] at h⟩
  | k + 1 => by
    obtain ⟨ih0, ih1, ih2, ih3⟩ := gimballaw21_MotionExact.mono_l k
    refine ⟨?_, ?_, ?_, ?_⟩
    · intro y0 y1
      unfold gimballaw21_MotionExact.l0
      repeat' first
      | (with_reducible exact ih0 _ _)
      | (with_reducible exact ih1 _ _ _)
      | (with_reducible exact ih2 _ _ _ _ _ _ _ _ _ _ _ _ _ _ _ _ _ _ _)
      | (with_reducible exact ih3 _ _ _ _ _ _ _ _ _ _ _ _ _ _ _ _ _ _)
      | (with_reducible exact gimballaw21_wakes.mono _)
      | (with_reducible exact gimbalref15_MayMotion.mono _ _ _ _ _ _ _)
      | (with_reducible exact gimbalref15_Motion.mono _ _ _ _ _ _ _ _ _)
      | (with_reducible exact motion_Take.mono _ _ _ _ _ _ _ _ _)
      | (with_reducible exact LeO.refl _)
      | (with_reducible exact LeO.none _)
      | (with_reducible refine LeO.ite ?_ ?_)
      | (with_reducible refine LeO.bind ?_ (fun _ => ?_))
      | exact ih0 _ _
      | exact ih1 _ _ _
      | exact ih2 _ _ _ _ _ _ _ _ _ _ _ _ _ _ _ _ _ _ _
      | exact ih3 _ _ _ _ _ _ _ _ _ _ _ _ _ _ _ _ _ _
      | exact gimballaw21_wakes.mono _
      | exact gimbalref15_MayMotion.mono _ _ _ _ _ _ _
      | exact gimbalref15_Motion.mono _ _ _ _ _ _ _ _ _
      | exact motion_Take.mono _ _ _ _ _ _ _ _ _
      | exact LeO.none _
      | refine LeO.ite ?_ ?_
      | refine LeO.bind ?_ (fun _ => ?_)
    · intro y0 y1 y2
      unfold gimballaw21_MotionExact.j1
      repeat' first
      | (with_reducible exact ih0 _ _)
      | (with_reducible exact ih1 _ _ _)
      | (with_reducible exact ih2 _ _ _ _ _ _ _ _ _ _ _ _ _ _ _ _ _ _ _)
      | (with_reducible exact ih3 _ _ _ _ _ _ _ _ _ _ _ _ _ _ _ _ _ _)
      | (with_reducible exact gimballaw21_wakes.mono _)
      | (with_reducible exact gimbalref15_MayMotion.mono _ _ _ _ _ _ _)
      | (with_reducible exact gimbalref15_Motion.mono _ _ _ _ _ _ _ _ _)
      | (with_reducible exact motion_Take.mono _ _ _ _ _ _ _ _ _)
      | (with_reducible exact LeO.refl _)
      | (with_reducible exact LeO.none _)
      | (with_reducible refine LeO.ite ?_ ?_)
      | (with_reducible refine LeO.bind ?_ (fun _ => ?_))
      | exact ih0 _ _
      | exact ih1 _ _ _
      | exact ih2 _ _ _ _ _ _ _ _ _ _ _ _ _ _ _ _ _ _ _
      | exact ih3 _ _ _ _ _ _ _ _ _ _ _ _ _ _ _ _ _ _
      | exact gimballaw21_wakes.mono _
      | exact gimbalref15_MayMotion.mono _ _ _ _ _ _ _
      | exact gimbalref15_Motion.mono _ _ _ _ _ _ _ _ _
      | exact motion_Take.mono _ _ _ _ _ _ _ _ _
      | exact LeO.none _
      | refine LeO.ite ?_ ?_
      | refine LeO.bind ?_ (fun _ => ?_)
    · intro y0 y1 y2 y3 y4 y5 y6 y7 y8 y9 y10 y11 y12 y13 y14 y15 y16 y17 y18
      unfold gimballaw21_MotionExact.j2
      repeat' first
      | (with_reducible exact ih0 _ _)
      | (with_reducible exact ih1 _ _ _)
      | (with_reducible exact ih2 _ _ _ _ _ _ _ _ _ _ _ _ _ _ _ _ _ _ _)
      | (with_reducible exact ih3 _ _ _ _ _ _ _ _ _ _ _ _ _ _ _ _ _ _)
      | (with_reducible exact gimballaw21_wakes.mono _)
      | (with_reducible exact gimbalref15_MayMotion.mono _ _ _ _ _ _ _)
      | (with_reducible exact gimbalref15_Motion.mono _ _ _ _ _ _ _ _ _)
      | (with_reducible exact motion_Take.mono _ _ _ _ _ _ _ _ _)
      | (with_reducible exact LeO.refl _)
      | (with_reducible exact LeO.none _)
      | (with_reducible refine LeO.ite ?_ ?_)
      | (with_reducible refine LeO.bind ?_ (fun _ => ?_))
      | exact ih0 _ _
      | exact ih1 _ _ _
      | exact ih2 _ _ _ _ _ _ _ _ _ _ _ _ _ _ _ _ _ _ _
      | exact ih3 _ _ _ _ _ _ _ _ _ _ _ _ _ _ _ _ _ _
      | exact gimballaw21_wakes.mono _
      | exact gimbalref15_MayMotion.mono _ _ _ _ _ _ _
      | exact gimbalref15_Motion.mono _ _ _ _ _ _ _ _ _
      | exact motion_Take.mono _ _ _ _ _ _ _ _ _
      | exact LeO.none _
      | refine LeO.ite ?_ ?_
      | refine LeO.bind ?_ (fun _ => ?_)
    · intro y0 y1 y2 y3 y4 y5 y6 y7 y8 y9 y10 y11 y12 y13 y14 y15 y16 y17
      unfold gimballaw21_MotionExact.j3
      repeat' first
      | (with_reducible exact ih0 _ _)
      | (with_reducible exact ih1 _ _ _)
      | (with_reducible exact ih2 _ _ _ _ _ _ _ _ _ _ _ _ _ _ _ _ _ _ _)
      | (with_reducible exact ih3 _ _ _ _ _ _ _ _ _ _ _ _ _ _ _ _ _ _)
      | (with_reducible exact gimballaw21_wakes.mono _)
      | (with_reducible exact gimbalref15_MayMotion.mono _ _ _ _ _ _ _)
      | (with_reducible exact gimbalref15_Motion.mono _ _ _ _ _ _ _ _ _)
      | (with_reducible exact motion_Take.mono _ _ _ _ _ _ _ _ _)
      | (with_reducible exact LeO.refl _)
      | (with_reducible exact LeO.none _)
      | (with_reducible refine LeO.ite ?_ ?_)
      | (with_reducible refine LeO.bind ?_ (fun _ => ?_))
      | exact ih0 _ _
      | exact ih1 _ _ _
      | exact ih2 _ _ _ _ _ _ _ _ _ _ _ _ _ _ _ _ _ _ _
      | exact ih3 _ _ _ _ _ _ _ _ _ _ _ _ _ _ _ _ _ _
      | exact gimballaw21_wakes.mono _
      | exact gimbalref15_MayMotion.mono _ _ _ _ _ _ _
      | exact gimbalref15_Motion.mono _ _ _ _ _ _ _ _ _
      | exact motion_Take.mono _ _ _ _ _ _ _ _ _
      | exact LeO.none _
      | refine LeO.ite ?_ ?_
      | refine LeO.bind ?_ (fun _ => ?_)
theorem gimballaw21_MotionExact.mono : ∀ a0 k, LeO (gimballaw21_MotionExact.f k a0) (gimballaw21_MotionExact.f (k + 1) a0) := by
  intro a0 k
  obtain ⟨ih0, ih1, ih2, ih3⟩ := gimballaw21_MotionExact.mono_l k
  unfold gimballaw21_MotionExact.f
  repeat' first
      | (with_reducible exact ih0 _ _)
      | (with_reducible exact ih1 _ _ _)
      | (with_reducible exact ih2 _ _ _ _ _ _ _ _ _ _ _ _ _ _ _ _ _ _ _)
      | (with_reducible exact ih3 _ _ _ _ _ _ _ _ _ _ _ _ _ _ _ _ _ _)
      | (with_reducible exact gimballaw21_wakes.mono _)
      | (with_reducible exact gimbalref15_MayMotion.mono _ _ _ _ _ _ _)
      | (with_reducible exact gimbalref15_Motion.mono _ _ _ _ _ _ _ _ _)
      | (with_reducible exact motion_Take.mono _ _ _ _ _ _ _ _ _)
      | (with_reducible exact LeO.refl _)
      | (with_reducible exact LeO.none _)
      | (with_reducible refine LeO.ite ?_ ?_)
      | (with_reducible refine LeO.bind ?_ (fun _ => ?_))
      | exact ih0 _ _
      | exact ih1 _ _ _
      | exact ih2 _ _ _ _ _ _ _ _ _ _ _ _ _ _ _ _ _ _ _
      | exact ih3 _ _ _ _ _ _ _ _ _ _ _ _ _ _ _ _ _ _
      | exact gimballaw21_wakes.mono _
      | exact gimbalref15_MayMotion.mono _ _ _ _ _ _ _
      | exact gimbalref15_Motion.mono _ _ _ _ _ _ _ _ _
      | exact motion_Take.mono _ _ _ _ _ _ _ _ _
      | exact LeO.none _
      | refine LeO.ite ?_ ?_
      | refine LeO.bind ?_ (fun _ => ?_)
set_option maxHeartbeats 8000000 in
set_option maxRecDepth 100000 in
theorem gimballaw21_MotionExact.calls (k : Nat) (A0 : Option Addr) (c0 : Nat) (l0 : List (S36)) (r : Bool) (w : World) (hr0 : Kd.C k36 w A0 l0.length l0) (hc0 : l0.length ≤ c0) (h : gimballaw21_MotionExact.f k l0 = some r) :
    Calls Try.prog 5 #[.slice A0 l0.length c0] w fun e w' => e = .returned (.bool r) ∧ Below w.heap.size w w' := by
  have hu36 := Try.underlying36
  have hu33 := Try.underlying33
  have HR0 := Aside0.mk hr0
  have HC0 := Aside0.mk hc0
  clear hr0 hc0
  have HB := Aside0.mk (Below.refl w.heap.size w)
  have H : (gimballaw21_MotionExact.l0 k l0 0) = some r := h
  clear h
  have H' := Aside0.mk H
  clear H
  go_enter Try.func5, Try.ntmps5
  go_wp2
  go_loopg [3] k (fun kq v3 w' => ∃ (x3_1 : Int), v3 = .int .i64 x3_1 ∧ Aside0 (gimballaw21_MotionExact.l0 kq l0 x3_1 = some r) ∧ Aside0 (kq ≤ k) ∧ Aside0 (Below w.heap.size w w'))
  case atStart => exact ⟨(0), (by first | rfl | (simp; done) | (simp [*]; done)), H', ⟨Nat.le_refl _⟩, ⟨by repeat (first | (with_reducible first | exact HB.out | apply below_alloc | apply pw_below_drewN | apply below_drew1) | exact HB.out)⟩⟩
  case round =>
    clear H'
    obtain ⟨x3_1, rfl, HA, HK1, HB⟩ := hrel
    cases gk with
    | zero => exact absurd HA.out (by simp [gimballaw21_MotionExact.l0])
    | succ k1 =>
      have H := HA.out
      clear HA
      simp only [gimballaw21_MotionExact.l0] at H
      have HC2 := Aside0.mk H
      clear H
      go_upto_region 2 with (fail)
      go_cut [18] (fun v18 wc => ∃ (kq : Nat) (x18_1 : Bool), v18 = .bool x18_1 ∧ Aside0 (gimballaw21_MotionExact.j1 kq l0 x3_1 x18_1 = some r) ∧ Aside0 (kq ≤ k1) ∧ Aside0 (Below w.heap.size w wc))
      case first =>
        have H := HC2.out
        clear HC2
        by_cases c3 : x3_1 < (l0.length : Int)
        · rw [if_pos c3] at H
          have c3b0 : decide (x3_1 < (l0.length : Int)) = true := decide_eq_true c3
          clear c3
          (first | rw [c3b0] | (simp only [i64_w, i32_w]; rw [c3b0]) | skip)
          have H' := Aside0.mk H
          clear H
          go_wp2
          go_meet
          case rel => exact ⟨_, (decide (x3_1 < 100)), (by first | rfl | (simp; done) | (simp [*]; done)), H', ⟨by have := HK1.out; first | omega | exact Nat.le_refl _⟩, ⟨by repeat (first | (with_reducible first | exact HB.out | apply below_alloc | apply pw_below_drewN | apply below_drew1) | exact HB.out)⟩⟩
        · rw [if_neg c3] at H
          have c3b0 : decide (x3_1 < (l0.length : Int)) = false := decide_eq_false c3
          clear c3
          (first | rw [c3b0] | (simp only [i64_w, i32_w]; rw [c3b0]) | skip)
          have H' := Aside0.mk H
          clear H
          go_wp2
          go_meet
          case rel => exact ⟨_, (false), (by first | rfl | (simp; done) | (simp [*]; done)), H', ⟨by have := HK1.out; first | omega | exact Nat.le_refl _⟩, ⟨by repeat (first | (with_reducible first | exact HB.out | apply below_alloc | apply pw_below_drewN | apply below_drew1) | exact HB.out)⟩⟩
      case rest =>
        clear HC2
        try clear p2
        try clear c3
        try clear c3b0
        obtain ⟨kq, x18_1, rfl, HA, HJ1, HB⟩ := hcut
        cases kq with
        | zero => exact absurd HA.out (by simp [gimballaw21_MotionExact.j1])
        | succ kj1 =>
          have H := HA.out
          clear HA
          simp only [gimballaw21_MotionExact.j1] at H
          by_cases c4 : x18_1 = true
          · subst c4
            have H1 : (if 0 ≤ x3_1 then (if x3_1 < (l0.length : Int) then ((gimbalref15_MayMotion.f kj1 ((rd_T36 l0 x3_1).f0.f0) ((rd_T36 l0 x3_1).f0.f1) ((rd_T36 l0 x3_1).f0.f2) ((rd_T36 l0 x3_1).f0.f3) ((rd_T36 l0 x3_1).f0.f4) ((rd_T36 l0 x3_1).f0.f5)).bind fun t156 => (if t156 = true then ((gimbalref15_Mag.f ((rd_T36 l0 x3_1).f1)).bind fun t157 => (if t157 = true then ((gimbalref0_Time.f ((rd_T36 l0 x3_1).f2)).bind fun t158 => (if t158 = true then (gimballaw21_MotionExact.j2 kj1 l0 x3_1 1 false (decide (((rd_T36 l0 x3_1).f2) ≥ ((rd_T36 l0 x3_1).f0.f1))) ((rd_T36 l0 x3_1).f0.f0) ((rd_T36 l0 x3_1).f0.f1) ((rd_T36 l0 x3_1).f0.f2) ((rd_T36 l0 x3_1).f0.f3) ((rd_T36 l0 x3_1).f0.f4) ((rd_T36 l0 x3_1).f0.f5) ((rd_T36 l0 x3_1).f1) ((rd_T36 l0 x3_1).f2) false 0 0 0 0 false) else (gimballaw21_MotionExact.j2 kj1 l0 x3_1 1 false false ((rd_T36 l0 x3_1).f0.f0) ((rd_T36 l0 x3_1).f0.f1) ((rd_T36 l0 x3_1).f0.f2) ((rd_T36 l0 x3_1).f0.f3) ((rd_T36 l0 x3_1).f0.f4) ((rd_T36 l0 x3_1).f0.f5) ((rd_T36 l0 x3_1).f1) ((rd_T36 l0 x3_1).f2) false 0 0 0 0 false))) else (gimballaw21_MotionExact.j2 kj1 l0 x3_1 1 false false ((rd_T36 l0 x3_1).f0.f0) ((rd_T36 l0 x3_1).f0.f1) ((rd_T36 l0 x3_1).f0.f2) ((rd_T36 l0 x3_1).f0.f3) ((rd_T36 l0 x3_1).f0.f4) ((rd_T36 l0 x3_1).f0.f5) ((rd_T36 l0 x3_1).f1) ((rd_T36 l0 x3_1).f2) false 0 0 0 0 false))) else (gimballaw21_MotionExact.j2 kj1 l0 x3_1 1 false false ((rd_T36 l0 x3_1).f0.f0) ((rd_T36 l0 x3_1).f0.f1) ((rd_T36 l0 x3_1).f0.f2) ((rd_T36 l0 x3_1).f0.f3) ((rd_T36 l0 x3_1).f0.f4) ((rd_T36 l0 x3_1).f0.f5) ((rd_T36 l0 x3_1).f1) ((rd_T36 l0 x3_1).f2) false 0 0 0 0 false))) else (none)) else (none)) = some r := by rw [if_pos rfl] at H; exact H
            clear H
            have H := H1
            clear H1
            by_cases c5 : 0 ≤ x3_1
            · rw [if_pos c5] at H
              have c5b0 : decide (0 ≤ x3_1) = true := decide_eq_true c5
              clear c5
              by_cases c6 : x3_1 < (l0.length : Int)
              · rw [if_pos c6] at H
                have c6b0 : decide (x3_1 < (l0.length : Int)) = true := decide_eq_true c6
                clear c6
                have HC7 := Aside0.mk H
                clear H
                have p153 : 0 ≤ (x3_1 : Int) := of_decide_eq_true (by first | (with_reducible assumption) | assumption)
                have q153 : x3_1 < (l0.length : Int) := of_decide_eq_true (by first | (with_reducible assumption) | assumption)
                obtain ⟨ad153, e153, hx153_0, hx153_1, hx153_2, hx153_3, hx153_4, hx153_5, hx153_6, hx153_7⟩ := at_T36 HR0.out x3_1 p153 q153
                cases e153
                replace hx153_0 := (HB.out.cell (World.block_lt_of_cell? w _ hx153_0)).trans hx153_0
                replace hx153_1 := (HB.out.cell (World.block_lt_of_cell? w _ hx153_1)).trans hx153_1
                replace hx153_2 := (HB.out.cell (World.block_lt_of_cell? w _ hx153_2)).trans hx153_2
                replace hx153_3 := (HB.out.cell (World.block_lt_of_cell? w _ hx153_3)).trans hx153_3
                replace hx153_4 := (HB.out.cell (World.block_lt_of_cell? w _ hx153_4)).trans hx153_4
                replace hx153_5 := (HB.out.cell (World.block_lt_of_cell? w _ hx153_5)).trans hx153_5
                replace hx153_6 := (HB.out.cell (World.block_lt_of_cell? w _ hx153_6)).trans hx153_6
                replace hx153_7 := (HB.out.cell (World.block_lt_of_cell? w _ hx153_7)).trans hx153_7
                replace p153 := eq_true p153
                replace q153 := eq_true q153
                go_upto_region 8 with (first | ((with_reducible refine gate_dst (N := 4) rfl ?_); refine box_event ?hg (N := 4) ?hd (cs := #[.bool false, .int .i64 0, .int .i64 0, .int .i64 0, .int .i64 0, .bool false, .int .i64 0, .int .i64 0]) (t := 36) ?hr ?_; (case hd => rfl); (case hg => rfl); (case hr => first | (go_simp; done) | (go_simp; rfl)); intro gb154 hg w8 hbox hb; have n0_ := Aside0.mk (below_step (by repeat (first | (with_reducible first | exact HB.out | apply below_alloc | apply pw_below_drewN | apply below_drew1) | exact HB.out)) hb); have n1_ := Aside0.mk (hbox); have n2_ := Aside0.mk ((by rw [hg]; exact (below_size (by repeat (first | (with_reducible first | exact HB.out | apply below_alloc | apply pw_below_drewN | apply below_drew1) | exact HB.out))) : w.heap.size ≤ gb154)); have n3_ := Aside0.mk ((by rw [hg]; exact (below_size (by repeat (first | (with_reducible first | exact HB.out | apply below_alloc | apply pw_below_drewN | apply below_drew1) | exact HB.out))) : w.heap.size ≤ gb154)); clear HB; have HB := n0_; have BK154 := n1_; have GW154 := n2_; have GE154 := n3_; clear n0_ n1_ n2_ n3_; clear hb hbox hg; have hcz9_0 : w8.cell? ⟨gb154, 0, none⟩ = some (.bool false) := (blk_cell BK154.out 0).trans rfl; have hcz9_1 : w8.cell? ⟨gb154, 1, none⟩ = some (.int .i64 0) := (blk_cell BK154.out 1).trans rfl; have hcz9_2 : w8.cell? ⟨gb154, 2, none⟩ = some (.int .i64 0) := (blk_cell BK154.out 2).trans rfl; have hcz9_3 : w8.cell? ⟨gb154, 3, none⟩ = some (.int .i64 0) := (blk_cell BK154.out 3).trans rfl; have hcz9_4 : w8.cell? ⟨gb154, 4, none⟩ = some (.int .i64 0) := (blk_cell BK154.out 4).trans rfl; have hcz9_5 : w8.cell? ⟨gb154, 5, none⟩ = some (.bool false) := (blk_cell BK154.out 5).trans rfl; have hcz9_6 : w8.cell? ⟨gb154, 6, none⟩ = some (.int .i64 0) := (blk_cell BK154.out 6).trans rfl; have hcz9_7 : w8.cell? ⟨gb154, 7, none⟩ = some (.int .i64 0) := (blk_cell BK154.out 7).trans rfl; have hfz9_0 := blk_frozen BK154.out 0; have hfz9_1 := blk_frozen BK154.out 1; have hfz9_2 := blk_frozen BK154.out 2; have hfz9_3 := blk_frozen BK154.out 3; have hfz9_4 := blk_frozen BK154.out 4; have hfz9_5 := blk_frozen BK154.out 5; have hfz9_6 := blk_frozen BK154.out 6; have hfz9_7 := blk_frozen BK154.out 7) | ((with_reducible refine gate_dst (N := 6) rfl ?_); refine box_event ?hg (N := 6) ?hd (cs := #[.bool false, .int .i64 0, .int .i64 0, .int .i64 0, .int .i64 0, .bool false]) (t := 33) ?hr ?_; (case hd => rfl); (case hg => rfl); (case hr => first | (go_simp; done) | (go_simp; rfl)); intro gb155 hg w10 hbox hb; have n0_ := Aside0.mk (blk_below (g := gb154) (o := .cells #[.bool ((rd_T36 l0 x3_1).f0.f0), .int .i64 ((rd_T36 l0 x3_1).f0.f1), .int .i64 ((rd_T36 l0 x3_1).f0.f2), .int .i64 ((rd_T36 l0 x3_1).f0.f3), .int .i64 ((rd_T36 l0 x3_1).f0.f4), .bool ((rd_T36 l0 x3_1).f0.f5), .int .i64 ((rd_T36 l0 x3_1).f1), .int .i64 ((rd_T36 l0 x3_1).f2)] 36 (0, 0)) (by (with_reducible repeat (first | refine blk_drewN ?_ _ | refine blk_drew ?_ | refine blk_alloc ?_ _)); refine blk_put (cs := #[.bool ((rd_T36 l0 x3_1).f0.f0), .int .i64 ((rd_T36 l0 x3_1).f0.f1), .int .i64 ((rd_T36 l0 x3_1).f0.f2), .int .i64 ((rd_T36 l0 x3_1).f0.f3), .int .i64 ((rd_T36 l0 x3_1).f0.f4), .bool ((rd_T36 l0 x3_1).f0.f5), .int .i64 ((rd_T36 l0 x3_1).f1), .int .i64 0]) ?_ 7 _ rfl; (with_reducible repeat (first | refine blk_drewN ?_ _ | refine blk_drew ?_ | refine blk_alloc ?_ _)); refine blk_put (cs := #[.bool ((rd_T36 l0 x3_1).f0.f0), .int .i64 ((rd_T36 l0 x3_1).f0.f1), .int .i64 ((rd_T36 l0 x3_1).f0.f2), .int .i64 ((rd_T36 l0 x3_1).f0.f3), .int .i64 ((rd_T36 l0 x3_1).f0.f4), .bool ((rd_T36 l0 x3_1).f0.f5), .int .i64 0, .int .i64 0]) ?_ 6 _ rfl; (with_reducible repeat (first | refine blk_drewN ?_ _ | refine blk_drew ?_ | refine blk_alloc ?_ _)); refine blk_put (cs := #[.bool ((rd_T36 l0 x3_1).f0.f0), .int .i64 ((rd_T36 l0 x3_1).f0.f1), .int .i64 ((rd_T36 l0 x3_1).f0.f2), .int .i64 ((rd_T36 l0 x3_1).f0.f3), .int .i64 ((rd_T36 l0 x3_1).f0.f4), .bool false, .int .i64 0, .int .i64 0]) ?_ 5 _ rfl; (with_reducible repeat (first | refine blk_drewN ?_ _ | refine blk_drew ?_ | refine blk_alloc ?_ _)); refine blk_put (cs := #[.bool ((rd_T36 l0 x3_1).f0.f0), .int .i64 ((rd_T36 l0 x3_1).f0.f1), .int .i64 ((rd_T36 l0 x3_1).f0.f2), .int .i64 ((rd_T36 l0 x3_1).f0.f3), .int .i64 0, .bool false, .int .i64 0, .int .i64 0]) ?_ 4 _ rfl; (with_reducible repeat (first | refine blk_drewN ?_ _ | refine blk_drew ?_ | refine blk_alloc ?_ _)); refine blk_put (cs := #[.bool ((rd_T36 l0 x3_1).f0.f0), .int .i64 ((rd_T36 l0 x3_1).f0.f1), .int .i64 ((rd_T36 l0 x3_1).f0.f2), .int .i64 0, .int .i64 0, .bool false, .int .i64 0, .int .i64 0]) ?_ 3 _ rfl; (with_reducible repeat (first | refine blk_drewN ?_ _ | refine blk_drew ?_ | refine blk_alloc ?_ _)); refine blk_put (cs := #[.bool ((rd_T36 l0 x3_1).f0.f0), .int .i64 ((rd_T36 l0 x3_1).f0.f1), .int .i64 0, .int .i64 0, .int .i64 0, .bool false, .int .i64 0, .int .i64 0]) ?_ 2 _ rfl; (with_reducible repeat (first | refine blk_drewN ?_ _ | refine blk_drew ?_ | refine blk_alloc ?_ _)); refine blk_put (cs := #[.bool ((rd_T36 l0 x3_1).f0.f0), .int .i64 0, .int .i64 0, .int .i64 0, .int .i64 0, .bool false, .int .i64 0, .int .i64 0]) ?_ 1 _ rfl; (with_reducible repeat (first | refine blk_drewN ?_ _ | refine blk_drew ?_ | refine blk_alloc ?_ _)); refine blk_put (cs := #[.bool false, .int .i64 0, .int .i64 0, .int .i64 0, .int .i64 0, .bool false, .int .i64 0, .int .i64 0]) ?_ 0 _ rfl; (with_reducible repeat (first | refine blk_drewN ?_ _ | refine blk_drew ?_ | refine blk_alloc ?_ _)); exact BK154.out) hb); have n1_ := Aside0.mk (below_step (by repeat (first | (with_reducible first | exact HB.out | apply below_alloc | apply pw_below_drewN | apply below_drew1 | refine below_set ?_ GE154.out) | exact HB.out)) hb); have n2_ := Aside0.mk (hbox); have n3_ := Aside0.mk ((by rw [hg]; exact (below_size (by repeat (first | (with_reducible first | exact HB.out | apply below_alloc | apply pw_below_drewN | apply below_drew1 | refine below_set ?_ GE154.out) | exact HB.out))) : w.heap.size ≤ gb155)); have n4_ := Aside0.mk ((by rw [hg]; exact (below_size (by repeat (first | (with_reducible first | exact HB.out | apply below_alloc | apply pw_below_drewN | apply below_drew1 | refine below_set ?_ GE154.out) | exact HB.out))) : w.heap.size ≤ gb155)); have n5_ := Aside0.mk ((by rw [hg]; exact Nat.ne_of_lt (blk_lt (g := gb154) (o := .cells #[.bool ((rd_T36 l0 x3_1).f0.f0), .int .i64 ((rd_T36 l0 x3_1).f0.f1), .int .i64 ((rd_T36 l0 x3_1).f0.f2), .int .i64 ((rd_T36 l0 x3_1).f0.f3), .int .i64 ((rd_T36 l0 x3_1).f0.f4), .bool ((rd_T36 l0 x3_1).f0.f5), .int .i64 ((rd_T36 l0 x3_1).f1), .int .i64 ((rd_T36 l0 x3_1).f2)] 36 (0, 0)) (by (with_reducible repeat (first | refine blk_drewN ?_ _ | refine blk_drew ?_ | refine blk_alloc ?_ _)); refine blk_put (cs := #[.bool ((rd_T36 l0 x3_1).f0.f0), .int .i64 ((rd_T36 l0 x3_1).f0.f1), .int .i64 ((rd_T36 l0 x3_1).f0.f2), .int .i64 ((rd_T36 l0 x3_1).f0.f3), .int .i64 ((rd_T36 l0 x3_1).f0.f4), .bool ((rd_T36 l0 x3_1).f0.f5), .int .i64 ((rd_T36 l0 x3_1).f1), .int .i64 0]) ?_ 7 _ rfl; (with_reducible repeat (first | refine blk_drewN ?_ _ | refine blk_drew ?_ | refine blk_alloc ?_ _)); refine blk_put (cs := #[.bool ((rd_T36 l0 x3_1).f0.f0), .int .i64 ((rd_T36 l0 x3_1).f0.f1), .int .i64 ((rd_T36 l0 x3_1).f0.f2), .int .i64 ((rd_T36 l0 x3_1).f0.f3), .int .i64 ((rd_T36 l0 x3_1).f0.f4), .bool ((rd_T36 l0 x3_1).f0.f5), .int .i64 0, .int .i64 0]) ?_ 6 _ rfl; (with_reducible repeat (first | refine blk_drewN ?_ _ | refine blk_drew ?_ | refine blk_alloc ?_ _)); refine blk_put (cs := #[.bool ((rd_T36 l0 x3_1).f0.f0), .int .i64 ((rd_T36 l0 x3_1).f0.f1), .int .i64 ((rd_T36 l0 x3_1).f0.f2), .int .i64 ((rd_T36 l0 x3_1).f0.f3), .int .i64 ((rd_T36 l0 x3_1).f0.f4), .bool false, .int .i64 0, .int .i64 0]) ?_ 5 _ rfl; (with_reducible repeat (first | refine blk_drewN ?_ _ | refine blk_drew ?_ | refine blk_alloc ?_ _)); refine blk_put (cs := #[.bool ((rd_T36 l0 x3_1).f0.f0), .int .i64 ((rd_T36 l0 x3_1).f0.f1), .int .i64 ((rd_T36 l0 x3_1).f0.f2), .int .i64 ((rd_T36 l0 x3_1).f0.f3), .int .i64 0, .bool false, .int .i64 0, .int .i64 0]) ?_ 4 _ rfl; (with_reducible repeat (first | refine blk_drewN ?_ _ | refine blk_drew ?_ | refine blk_alloc ?_ _)); refine blk_put (cs := #[.bool ((rd_T36 l0 x3_1).f0.f0), .int .i64 ((rd_T36 l0 x3_1).f0.f1), .int .i64 ((rd_T36 l0 x3_1).f0.f2), .int .i64 0, .int .i64 0, .bool false, .int .i64 0, .int .i64 0]) ?_ 3 _ rfl; (with_reducible repeat (first | refine blk_drewN ?_ _ | refine blk_drew ?_ | refine blk_alloc ?_ _)); refine blk_put (cs := #[.bool ((rd_T36 l0 x3_1).f0.f0), .int .i64 ((rd_T36 l0 x3_1).f0.f1), .int .i64 0, .int .i64 0, .int .i64 0, .bool false, .int .i64 0, .int .i64 0]) ?_ 2 _ rfl; (with_reducible repeat (first | refine blk_drewN ?_ _ | refine blk_drew ?_ | refine blk_alloc ?_ _)); refine blk_put (cs := #[.bool ((rd_T36 l0 x3_1).f0.f0), .int .i64 0, .int .i64 0, .int .i64 0, .int .i64 0, .bool false, .int .i64 0, .int .i64 0]) ?_ 1 _ rfl; (with_reducible repeat (first | refine blk_drewN ?_ _ | refine blk_drew ?_ | refine blk_alloc ?_ _)); refine blk_put (cs := #[.bool false, .int .i64 0, .int .i64 0, .int .i64 0, .int .i64 0, .bool false, .int .i64 0, .int .i64 0]) ?_ 0 _ rfl; (with_reducible repeat (first | refine blk_drewN ?_ _ | refine blk_drew ?_ | refine blk_alloc ?_ _)); exact BK154.out)) : gb154 ≠ gb155)); have n6_ := Aside0.mk ((by rw [hg]; exact Nat.ne_of_gt (blk_lt (g := gb154) (o := .cells #[.bool ((rd_T36 l0 x3_1).f0.f0), .int .i64 ((rd_T36 l0 x3_1).f0.f1), .int .i64 ((rd_T36 l0 x3_1).f0.f2), .int .i64 ((rd_T36 l0 x3_1).f0.f3), .int .i64 ((rd_T36 l0 x3_1).f0.f4), .bool ((rd_T36 l0 x3_1).f0.f5), .int .i64 ((rd_T36 l0 x3_1).f1), .int .i64 ((rd_T36 l0 x3_1).f2)] 36 (0, 0)) (by (with_reducible repeat (first | refine blk_drewN ?_ _ | refine blk_drew ?_ | refine blk_alloc ?_ _)); refine blk_put (cs := #[.bool ((rd_T36 l0 x3_1).f0.f0), .int .i64 ((rd_T36 l0 x3_1).f0.f1), .int .i64 ((rd_T36 l0 x3_1).f0.f2), .int .i64 ((rd_T36 l0 x3_1).f0.f3), .int .i64 ((rd_T36 l0 x3_1).f0.f4), .bool ((rd_T36 l0 x3_1).f0.f5), .int .i64 ((rd_T36 l0 x3_1).f1), .int .i64 0]) ?_ 7 _ rfl; (with_reducible repeat (first | refine blk_drewN ?_ _ | refine blk_drew ?_ | refine blk_alloc ?_ _)); refine blk_put (cs := #[.bool ((rd_T36 l0 x3_1).f0.f0), .int .i64 ((rd_T36 l0 x3_1).f0.f1), .int .i64 ((rd_T36 l0 x3_1).f0.f2), .int .i64 ((rd_T36 l0 x3_1).f0.f3), .int .i64 ((rd_T36 l0 x3_1).f0.f4), .bool ((rd_T36 l0 x3_1).f0.f5), .int .i64 0, .int .i64 0]) ?_ 6 _ rfl; (with_reducible repeat (first | refine blk_drewN ?_ _ | refine blk_drew ?_ | refine blk_alloc ?_ _)); refine blk_put (cs := #[.bool ((rd_T36 l0 x3_1).f0.f0), .int .i64 ((rd_T36 l0 x3_1).f0.f1), .int .i64 ((rd_T36 l0 x3_1).f0.f2), .int .i64 ((rd_T36 l0 x3_1).f0.f3), .int .i64 ((rd_T36 l0 x3_1).f0.f4), .bool false, .int .i64 0, .int .i64 0]) ?_ 5 _ rfl; (with_reducible repeat (first | refine blk_drewN ?_ _ | refine blk_drew ?_ | refine blk_alloc ?_ _)); refine blk_put (cs := #[.bool ((rd_T36 l0 x3_1).f0.f0), .int .i64 ((rd_T36 l0 x3_1).f0.f1), .int .i64 ((rd_T36 l0 x3_1).f0.f2), .int .i64 ((rd_T36 l0 x3_1).f0.f3), .int .i64 0, .bool false, .int .i64 0, .int .i64 0]) ?_ 4 _ rfl; (with_reducible repeat (first | refine blk_drewN ?_ _ | refine blk_drew ?_ | refine blk_alloc ?_ _)); refine blk_put (cs := #[.bool ((rd_T36 l0 x3_1).f0.f0), .int .i64 ((rd_T36 l0 x3_1).f0.f1), .int .i64 ((rd_T36 l0 x3_1).f0.f2), .int .i64 0, .int .i64 0, .bool false, .int .i64 0, .int .i64 0]) ?_ 3 _ rfl; (with_reducible repeat (first | refine blk_drewN ?_ _ | refine blk_drew ?_ | refine blk_alloc ?_ _)); refine blk_put (cs := #[.bool ((rd_T36 l0 x3_1).f0.f0), .int .i64 ((rd_T36 l0 x3_1).f0.f1), .int .i64 0, .int .i64 0, .int .i64 0, .bool false, .int .i64 0, .int .i64 0]) ?_ 2 _ rfl; (with_reducible repeat (first | refine blk_drewN ?_ _ | refine blk_drew ?_ | refine blk_alloc ?_ _)); refine blk_put (cs := #[.bool ((rd_T36 l0 x3_1).f0.f0), .int .i64 0, .int .i64 0, .int .i64 0, .int .i64 0, .bool false, .int .i64 0, .int .i64 0]) ?_ 1 _ rfl; (with_reducible repeat (first | refine blk_drewN ?_ _ | refine blk_drew ?_ | refine blk_alloc ?_ _)); refine blk_put (cs := #[.bool false, .int .i64 0, .int .i64 0, .int .i64 0, .int .i64 0, .bool false, .int .i64 0, .int .i64 0]) ?_ 0 _ rfl; (with_reducible repeat (first | refine blk_drewN ?_ _ | refine blk_drew ?_ | refine blk_alloc ?_ _)); exact BK154.out)) : gb155 ≠ gb154)); clear BK154; clear HB; have BK154 := n0_; have HB := n1_; have BK155 := n2_; have GW155 := n3_; have GE155 := n4_; have NB154_155 := n5_; have NB155_154 := n6_; clear n0_ n1_ n2_ n3_ n4_ n5_ n6_; clear hb hbox hg))
                (try simp only [Act.put, List.setIfInBounds_toArray, List.set_cons_zero, List.set_cons_succ])
                go_cut [45] (fun v45 wc => ∃ (kq : Nat) (x45_6 : Bool), v45 = .bool x45_6 ∧ Aside0 (gimballaw21_MotionExact.j2 kq l0 x3_1 1 false x45_6 ((rd_T36 l0 x3_1).f0.f0) ((rd_T36 l0 x3_1).f0.f1) ((rd_T36 l0 x3_1).f0.f2) ((rd_T36 l0 x3_1).f0.f3) ((rd_T36 l0 x3_1).f0.f4) ((rd_T36 l0 x3_1).f0.f5) ((rd_T36 l0 x3_1).f1) ((rd_T36 l0 x3_1).f2) false 0 0 0 0 false = some r) ∧ Aside0 (kq ≤ kj1) ∧ Aside0 (wc.heap[gb154]? = some (.cells #[.bool ((rd_T36 l0 x3_1).f0.f0), .int .i64 ((rd_T36 l0 x3_1).f0.f1), .int .i64 ((rd_T36 l0 x3_1).f0.f2), .int .i64 ((rd_T36 l0 x3_1).f0.f3), .int .i64 ((rd_T36 l0 x3_1).f0.f4), .bool ((rd_T36 l0 x3_1).f0.f5), .int .i64 ((rd_T36 l0 x3_1).f1), .int .i64 ((rd_T36 l0 x3_1).f2)] 36 (0, 0))) ∧ Aside0 (wc.heap[gb155]? = some (.cells #[.bool false, .int .i64 0, .int .i64 0, .int .i64 0, .int .i64 0, .bool false] 33 (0, 0))) ∧ Aside0 (Below w.heap.size w wc))
                case first =>
                  have H := HC7.out
                  clear HC7
                  replace H := Option.bind_eq_some_iff.mp H
                  obtain ⟨t156, A110, H⟩ := H
                  replace H : (if t156 = true then ((gimbalref15_Mag.f ((rd_T36 l0 x3_1).f1)).bind fun t157 => (if t157 = true then ((gimbalref0_Time.f ((rd_T36 l0 x3_1).f2)).bind fun t158 => (if t158 = true then (gimballaw21_MotionExact.j2 kj1 l0 x3_1 1 false (decide (((rd_T36 l0 x3_1).f2) ≥ ((rd_T36 l0 x3_1).f0.f1))) ((rd_T36 l0 x3_1).f0.f0) ((rd_T36 l0 x3_1).f0.f1) ((rd_T36 l0 x3_1).f0.f2) ((rd_T36 l0 x3_1).f0.f3) ((rd_T36 l0 x3_1).f0.f4) ((rd_T36 l0 x3_1).f0.f5) ((rd_T36 l0 x3_1).f1) ((rd_T36 l0 x3_1).f2) false 0 0 0 0 false) else (gimballaw21_MotionExact.j2 kj1 l0 x3_1 1 false false ((rd_T36 l0 x3_1).f0.f0) ((rd_T36 l0 x3_1).f0.f1) ((rd_T36 l0 x3_1).f0.f2) ((rd_T36 l0 x3_1).f0.f3) ((rd_T36 l0 x3_1).f0.f4) ((rd_T36 l0 x3_1).f0.f5) ((rd_T36 l0 x3_1).f1) ((rd_T36 l0 x3_1).f2) false 0 0 0 0 false))) else (gimballaw21_MotionExact.j2 kj1 l0 x3_1 1 false false ((rd_T36 l0 x3_1).f0.f0) ((rd_T36 l0 x3_1).f0.f1) ((rd_T36 l0 x3_1).f0.f2) ((rd_T36 l0 x3_1).f0.f3) ((rd_T36 l0 x3_1).f0.f4) ((rd_T36 l0 x3_1).f0.f5) ((rd_T36 l0 x3_1).f1) ((rd_T36 l0 x3_1).f2) false 0 0 0 0 false))) else (gimballaw21_MotionExact.j2 kj1 l0 x3_1 1 false false ((rd_T36 l0 x3_1).f0.f0) ((rd_T36 l0 x3_1).f0.f1) ((rd_T36 l0 x3_1).f0.f2) ((rd_T36 l0 x3_1).f0.f3) ((rd_T36 l0 x3_1).f0.f4) ((rd_T36 l0 x3_1).f0.f5) ((rd_T36 l0 x3_1).f1) ((rd_T36 l0 x3_1).f2) false 0 0 0 0 false)) = some r := H
                  have A11 := Aside0.mk A110
                  clear A110
                  by_cases c12 : t156 = true
                  · subst c12
                    have H1 : ((gimbalref15_Mag.f ((rd_T36 l0 x3_1).f1)).bind fun t157 => (if t157 = true then ((gimbalref0_Time.f ((rd_T36 l0 x3_1).f2)).bind fun t158 => (if t158 = true then (gimballaw21_MotionExact.j2 kj1 l0 x3_1 1 false (decide (((rd_T36 l0 x3_1).f2) ≥ ((rd_T36 l0 x3_1).f0.f1))) ((rd_T36 l0 x3_1).f0.f0) ((rd_T36 l0 x3_1).f0.f1) ((rd_T36 l0 x3_1).f0.f2) ((rd_T36 l0 x3_1).f0.f3) ((rd_T36 l0 x3_1).f0.f4) ((rd_T36 l0 x3_1).f0.f5) ((rd_T36 l0 x3_1).f1) ((rd_T36 l0 x3_1).f2) false 0 0 0 0 false) else (gimballaw21_MotionExact.j2 kj1 l0 x3_1 1 false false ((rd_T36 l0 x3_1).f0.f0) ((rd_T36 l0 x3_1).f0.f1) ((rd_T36 l0 x3_1).f0.f2) ((rd_T36 l0 x3_1).f0.f3) ((rd_T36 l0 x3_1).f0.f4) ((rd_T36 l0 x3_1).f0.f5) ((rd_T36 l0 x3_1).f1) ((rd_T36 l0 x3_1).f2) false 0 0 0 0 false))) else (gimballaw21_MotionExact.j2 kj1 l0 x3_1 1 false false ((rd_T36 l0 x3_1).f0.f0) ((rd_T36 l0 x3_1).f0.f1) ((rd_T36 l0 x3_1).f0.f2) ((rd_T36 l0 x3_1).f0.f3) ((rd_T36 l0 x3_1).f0.f4) ((rd_T36 l0 x3_1).f0.f5) ((rd_T36 l0 x3_1).f1) ((rd_T36 l0 x3_1).f2) false 0 0 0 0 false))) = some r := by rw [if_pos rfl] at H; exact H
                    clear H
                    have H := H1
                    clear H1
                    replace H := Option.bind_eq_some_iff.mp H
                    obtain ⟨t157, A130, H⟩ := H
                    replace H : (if t157 = true then ((gimbalref0_Time.f ((rd_T36 l0 x3_1).f2)).bind fun t158 => (if t158 = true then (gimballaw21_MotionExact.j2 kj1 l0 x3_1 1 false (decide (((rd_T36 l0 x3_1).f2) ≥ ((rd_T36 l0 x3_1).f0.f1))) ((rd_T36 l0 x3_1).f0.f0) ((rd_T36 l0 x3_1).f0.f1) ((rd_T36 l0 x3_1).f0.f2) ((rd_T36 l0 x3_1).f0.f3) ((rd_T36 l0 x3_1).f0.f4) ((rd_T36 l0 x3_1).f0.f5) ((rd_T36 l0 x3_1).f1) ((rd_T36 l0 x3_1).f2) false 0 0 0 0 false) else (gimballaw21_MotionExact.j2 kj1 l0 x3_1 1 false false ((rd_T36 l0 x3_1).f0.f0) ((rd_T36 l0 x3_1).f0.f1) ((rd_T36 l0 x3_1).f0.f2) ((rd_T36 l0 x3_1).f0.f3) ((rd_T36 l0 x3_1).f0.f4) ((rd_T36 l0 x3_1).f0.f5) ((rd_T36 l0 x3_1).f1) ((rd_T36 l0 x3_1).f2) false 0 0 0 0 false))) else (gimballaw21_MotionExact.j2 kj1 l0 x3_1 1 false false ((rd_T36 l0 x3_1).f0.f0) ((rd_T36 l0 x3_1).f0.f1) ((rd_T36 l0 x3_1).f0.f2) ((rd_T36 l0 x3_1).f0.f3) ((rd_T36 l0 x3_1).f0.f4) ((rd_T36 l0 x3_1).f0.f5) ((rd_T36 l0 x3_1).f1) ((rd_T36 l0 x3_1).f2) false 0 0 0 0 false)) = some r := H
                    have A13 := Aside0.mk A130
                    clear A130
                    by_cases c14 : t157 = true
                    · subst c14
                      have H1 : ((gimbalref0_Time.f ((rd_T36 l0 x3_1).f2)).bind fun t158 => (if t158 = true then (gimballaw21_MotionExact.j2 kj1 l0 x3_1 1 false (decide (((rd_T36 l0 x3_1).f2) ≥ ((rd_T36 l0 x3_1).f0.f1))) ((rd_T36 l0 x3_1).f0.f0) ((rd_T36 l0 x3_1).f0.f1) ((rd_T36 l0 x3_1).f0.f2) ((rd_T36 l0 x3_1).f0.f3) ((rd_T36 l0 x3_1).f0.f4) ((rd_T36 l0 x3_1).f0.f5) ((rd_T36 l0 x3_1).f1) ((rd_T36 l0 x3_1).f2) false 0 0 0 0 false) else (gimballaw21_MotionExact.j2 kj1 l0 x3_1 1 false false ((rd_T36 l0 x3_1).f0.f0) ((rd_T36 l0 x3_1).f0.f1) ((rd_T36 l0 x3_1).f0.f2) ((rd_T36 l0 x3_1).f0.f3) ((rd_T36 l0 x3_1).f0.f4) ((rd_T36 l0 x3_1).f0.f5) ((rd_T36 l0 x3_1).f1) ((rd_T36 l0 x3_1).f2) false 0 0 0 0 false))) = some r := by rw [if_pos rfl] at H; exact H
                      clear H
                      have H := H1
                      clear H1
                      replace H := Option.bind_eq_some_iff.mp H
                      obtain ⟨t158, A150, H⟩ := H
                      replace H : (if t158 = true then (gimballaw21_MotionExact.j2 kj1 l0 x3_1 1 false (decide (((rd_T36 l0 x3_1).f2) ≥ ((rd_T36 l0 x3_1).f0.f1))) ((rd_T36 l0 x3_1).f0.f0) ((rd_T36 l0 x3_1).f0.f1) ((rd_T36 l0 x3_1).f0.f2) ((rd_T36 l0 x3_1).f0.f3) ((rd_T36 l0 x3_1).f0.f4) ((rd_T36 l0 x3_1).f0.f5) ((rd_T36 l0 x3_1).f1) ((rd_T36 l0 x3_1).f2) false 0 0 0 0 false) else (gimballaw21_MotionExact.j2 kj1 l0 x3_1 1 false false ((rd_T36 l0 x3_1).f0.f0) ((rd_T36 l0 x3_1).f0.f1) ((rd_T36 l0 x3_1).f0.f2) ((rd_T36 l0 x3_1).f0.f3) ((rd_T36 l0 x3_1).f0.f4) ((rd_T36 l0 x3_1).f0.f5) ((rd_T36 l0 x3_1).f1) ((rd_T36 l0 x3_1).f2) false 0 0 0 0 false)) = some r := H
                      have A15 := Aside0.mk A150
                      clear A150
                      by_cases c16 : t158 = true
                      · subst c16
                        have H1 : (gimballaw21_MotionExact.j2 kj1 l0 x3_1 1 false (decide (((rd_T36 l0 x3_1).f2) ≥ ((rd_T36 l0 x3_1).f0.f1))) ((rd_T36 l0 x3_1).f0.f0) ((rd_T36 l0 x3_1).f0.f1) ((rd_T36 l0 x3_1).f0.f2) ((rd_T36 l0 x3_1).f0.f3) ((rd_T36 l0 x3_1).f0.f4) ((rd_T36 l0 x3_1).f0.f5) ((rd_T36 l0 x3_1).f1) ((rd_T36 l0 x3_1).f2) false 0 0 0 0 false) = some r := by rw [if_pos rfl] at H; exact H
                        clear H
                        have H := H1
                        clear H1
                        have H' := Aside0.mk H
                        clear H
                        have hnb17 := NB154_155.out
                        have hnc17 := NB155_154.out
                        have hcz18_0 : w10.cell? ⟨gb154, 0, none⟩ = some (.bool ((rd_T36 l0 x3_1).f0.f0)) := (blk_cell BK154.out 0).trans rfl
                        have hcz18_1 : w10.cell? ⟨gb154, 1, none⟩ = some (.int .i64 ((rd_T36 l0 x3_1).f0.f1)) := (blk_cell BK154.out 1).trans rfl
                        have hcz18_2 : w10.cell? ⟨gb154, 2, none⟩ = some (.int .i64 ((rd_T36 l0 x3_1).f0.f2)) := (blk_cell BK154.out 2).trans rfl
                        have hcz18_3 : w10.cell? ⟨gb154, 3, none⟩ = some (.int .i64 ((rd_T36 l0 x3_1).f0.f3)) := (blk_cell BK154.out 3).trans rfl
                        have hcz18_4 : w10.cell? ⟨gb154, 4, none⟩ = some (.int .i64 ((rd_T36 l0 x3_1).f0.f4)) := (blk_cell BK154.out 4).trans rfl
                        have hcz18_5 : w10.cell? ⟨gb154, 5, none⟩ = some (.bool ((rd_T36 l0 x3_1).f0.f5)) := (blk_cell BK154.out 5).trans rfl
                        have hcz18_6 : w10.cell? ⟨gb154, 6, none⟩ = some (.int .i64 ((rd_T36 l0 x3_1).f1)) := (blk_cell BK154.out 6).trans rfl
                        have hcz18_7 : w10.cell? ⟨gb154, 7, none⟩ = some (.int .i64 ((rd_T36 l0 x3_1).f2)) := (blk_cell BK154.out 7).trans rfl
                        have hfz18_0 := blk_frozen BK154.out 0
                        have hfz18_1 := blk_frozen BK154.out 1
                        have hfz18_2 := blk_frozen BK154.out 2
                        have hfz18_3 := blk_frozen BK154.out 3
                        have hfz18_4 := blk_frozen BK154.out 4
                        have hfz18_5 := blk_frozen BK154.out 5
                        have hfz18_6 := blk_frozen BK154.out 6
                        have hfz18_7 := blk_frozen BK154.out 7
                        go_wp2_with (first | ((with_reducible refine gate_callee (f := 24) rfl ?_); refine goesL_ (some 27) rfl rfl Try.func24 (by kernel_rfl) rfl #[.agg #[.bool ((rd_T36 l0 x3_1).f0.f0), .int .i64 ((rd_T36 l0 x3_1).f0.f1), .int .i64 ((rd_T36 l0 x3_1).f0.f2), .int .i64 ((rd_T36 l0 x3_1).f0.f3), .int .i64 ((rd_T36 l0 x3_1).f0.f4), .bool ((rd_T36 l0 x3_1).f0.f5)]] rfl (by (try simp only [List.map_toArray, List.map_cons, List.map_nil]); first | done | rfl | (simp only [List.length_drop, List.length_take]; rfl)) ?_; (with_reducible refine (gimbalref15_MayMotion.calls kj1 ((rd_T36 l0 x3_1).f0.f0) ((rd_T36 l0 x3_1).f0.f1) ((rd_T36 l0 x3_1).f0.f2) ((rd_T36 l0 x3_1).f0.f3) ((rd_T36 l0 x3_1).f0.f4) ((rd_T36 l0 x3_1).f0.f5) true _ A11.out).mono ?_); rintro e w19 ⟨rfl, hb⟩; refine ⟨_, rfl, ?_⟩; have n0_ := Aside0.mk (blk_below (g := gb154) (o := .cells #[.bool ((rd_T36 l0 x3_1).f0.f0), .int .i64 ((rd_T36 l0 x3_1).f0.f1), .int .i64 ((rd_T36 l0 x3_1).f0.f2), .int .i64 ((rd_T36 l0 x3_1).f0.f3), .int .i64 ((rd_T36 l0 x3_1).f0.f4), .bool ((rd_T36 l0 x3_1).f0.f5), .int .i64 ((rd_T36 l0 x3_1).f1), .int .i64 ((rd_T36 l0 x3_1).f2)] 36 (0, 0)) (by (with_reducible repeat (first | refine blk_drewN ?_ _ | refine blk_drew ?_ | refine blk_alloc ?_ _)); exact BK154.out) hb); have n1_ := Aside0.mk (blk_below (g := gb155) (o := .cells #[.bool false, .int .i64 0, .int .i64 0, .int .i64 0, .int .i64 0, .bool false] 33 (0, 0)) (by (with_reducible repeat (first | refine blk_drewN ?_ _ | refine blk_drew ?_ | refine blk_alloc ?_ _)); exact BK155.out) hb); have n2_ := Aside0.mk (below_step (by repeat (first | (with_reducible first | exact HB.out | apply below_alloc | apply pw_below_drewN | apply below_drew1 | refine below_set ?_ GE154.out | refine below_set ?_ GE155.out) | exact HB.out)) hb); clear BK154; clear BK155; clear HB; have BK154 := n0_; have BK155 := n1_; have HB := n2_; clear n0_ n1_ n2_; (try clear hb); (try clear hb2); (try clear hk); (try clear hi); have hcz20_0 : w19.cell? ⟨gb154, 0, none⟩ = some (.bool ((rd_T36 l0 x3_1).f0.f0)) := (blk_cell BK154.out 0).trans rfl; have hcz20_1 : w19.cell? ⟨gb154, 1, none⟩ = some (.int .i64 ((rd_T36 l0 x3_1).f0.f1)) := (blk_cell BK154.out 1).trans rfl; have hcz20_2 : w19.cell? ⟨gb154, 2, none⟩ = some (.int .i64 ((rd_T36 l0 x3_1).f0.f2)) := (blk_cell BK154.out 2).trans rfl; have hcz20_3 : w19.cell? ⟨gb154, 3, none⟩ = some (.int .i64 ((rd_T36 l0 x3_1).f0.f3)) := (blk_cell BK154.out 3).trans rfl; have hcz20_4 : w19.cell? ⟨gb154, 4, none⟩ = some (.int .i64 ((rd_T36 l0 x3_1).f0.f4)) := (blk_cell BK154.out 4).trans rfl; have hcz20_5 : w19.cell? ⟨gb154, 5, none⟩ = some (.bool ((rd_T36 l0 x3_1).f0.f5)) := (blk_cell BK154.out 5).trans rfl; have hcz20_6 : w19.cell? ⟨gb154, 6, none⟩ = some (.int .i64 ((rd_T36 l0 x3_1).f1)) := (blk_cell BK154.out 6).trans rfl; have hcz20_7 : w19.cell? ⟨gb154, 7, none⟩ = some (.int .i64 ((rd_T36 l0 x3_1).f2)) := (blk_cell BK154.out 7).trans rfl; have hfz20_0 := blk_frozen BK154.out 0; have hfz20_1 := blk_frozen BK154.out 1; have hfz20_2 := blk_frozen BK154.out 2; have hfz20_3 := blk_frozen BK154.out 3; have hfz20_4 := blk_frozen BK154.out 4; have hfz20_5 := blk_frozen BK154.out 5; have hfz20_6 := blk_frozen BK154.out 6; have hfz20_7 := blk_frozen BK154.out 7) | (go_at_call 25; (with_reducible refine (gimbalref15_Mag.calls ((rd_T36 l0 x3_1).f1) true _ A13.out).mono ?_); rintro e w' ⟨rfl, ⟨nd, rfl⟩⟩) | (go_at_call 26; (with_reducible refine (gimbalref0_Time.calls ((rd_T36 l0 x3_1).f2) true _ A15.out).mono ?_); rintro e w' ⟨rfl, ⟨nd, rfl⟩⟩))
                        go_meet
                        case rel => exact ⟨_, (decide (((rd_T36 l0 x3_1).f2) ≥ ((rd_T36 l0 x3_1).f0.f1))), (by first | rfl | (simp; done) | (simp [*]; done)), H', ⟨by have := HK1.out; have := HJ1.out; first | omega | exact Nat.le_refl _⟩, ⟨by (with_reducible repeat (first | refine blk_drewN ?_ _ | refine blk_drew ?_ | refine blk_alloc ?_ _)); exact BK154.out⟩, ⟨by (with_reducible repeat (first | refine blk_drewN ?_ _ | refine blk_drew ?_ | refine blk_alloc ?_ _)); exact BK155.out⟩, ⟨by repeat (first | (with_reducible first | exact HB.out | apply below_alloc | apply pw_below_drewN | apply below_drew1 | refine below_set ?_ GE154.out | refine below_set ?_ GE155.out) | exact HB.out)⟩⟩
                      · replace c16 := Bool.eq_false_iff.mpr c16
                        subst c16
                        have H1 : (gimballaw21_MotionExact.j2 kj1 l0 x3_1 1 false false ((rd_T36 l0 x3_1).f0.f0) ((rd_T36 l0 x3_1).f0.f1) ((rd_T36 l0 x3_1).f0.f2) ((rd_T36 l0 x3_1).f0.f3) ((rd_T36 l0 x3_1).f0.f4) ((rd_T36 l0 x3_1).f0.f5) ((rd_T36 l0 x3_1).f1) ((rd_T36 l0 x3_1).f2) false 0 0 0 0 false) = some r := by rw [if_neg (show ¬ (false = true) by decide)] at H; exact H
                        clear H
                        have H := H1
                        clear H1
                        have H' := Aside0.mk H
                        clear H
                        have hnb21 := NB154_155.out
                        have hnc21 := NB155_154.out
                        have hcz22_0 : w10.cell? ⟨gb154, 0, none⟩ = some (.bool ((rd_T36 l0 x3_1).f0.f0)) := (blk_cell BK154.out 0).trans rfl
                        have hcz22_1 : w10.cell? ⟨gb154, 1, none⟩ = some (.int .i64 ((rd_T36 l0 x3_1).f0.f1)) := (blk_cell BK154.out 1).trans rfl
                        have hcz22_2 : w10.cell? ⟨gb154, 2, none⟩ = some (.int .i64 ((rd_T36 l0 x3_1).f0.f2)) := (blk_cell BK154.out 2).trans rfl
                        have hcz22_3 : w10.cell? ⟨gb154, 3, none⟩ = some (.int .i64 ((rd_T36 l0 x3_1).f0.f3)) := (blk_cell BK154.out 3).trans rfl
                        have hcz22_4 : w10.cell? ⟨gb154, 4, none⟩ = some (.int .i64 ((rd_T36 l0 x3_1).f0.f4)) := (blk_cell BK154.out 4).trans rfl
                        have hcz22_5 : w10.cell? ⟨gb154, 5, none⟩ = some (.bool ((rd_T36 l0 x3_1).f0.f5)) := (blk_cell BK154.out 5).trans rfl
                        have hcz22_6 : w10.cell? ⟨gb154, 6, none⟩ = some (.int .i64 ((rd_T36 l0 x3_1).f1)) := (blk_cell BK154.out 6).trans rfl
                        have hcz22_7 : w10.cell? ⟨gb154, 7, none⟩ = some (.int .i64 ((rd_T36 l0 x3_1).f2)) := (blk_cell BK154.out 7).trans rfl
                        have hfz22_0 := blk_frozen BK154.out 0
                        have hfz22_1 := blk_frozen BK154.out 1
                        have hfz22_2 := blk_frozen BK154.out 2
                        have hfz22_3 := blk_frozen BK154.out 3
                        have hfz22_4 := blk_frozen BK154.out 4
                        have hfz22_5 := blk_frozen BK154.out 5
                        have hfz22_6 := blk_frozen BK154.out 6
                        have hfz22_7 := blk_frozen BK154.out 7
                        go_wp2_with (first | ((with_reducible refine gate_callee (f := 24) rfl ?_); refine goesL_ (some 27) rfl rfl Try.func24 (by kernel_rfl) rfl #[.agg #[.bool ((rd_T36 l0 x3_1).f0.f0), .int .i64 ((rd_T36 l0 x3_1).f0.f1), .int .i64 ((rd_T36 l0 x3_1).f0.f2), .int .i64 ((rd_T36 l0 x3_1).f0.f3), .int .i64 ((rd_T36 l0 x3_1).f0.f4), .bool ((rd_T36 l0 x3_1).f0.f5)]] rfl (by (try simp only [List.map_toArray, List.map_cons, List.map_nil]); first | done | rfl | (simp only [List.length_drop, List.length_take]; rfl)) ?_; (with_reducible refine (gimbalref15_MayMotion.calls kj1 ((rd_T36 l0 x3_1).f0.f0) ((rd_T36 l0 x3_1).f0.f1) ((rd_T36 l0 x3_1).f0.f2) ((rd_T36 l0 x3_1).f0.f3) ((rd_T36 l0 x3_1).f0.f4) ((rd_T36 l0 x3_1).f0.f5) true _ A11.out).mono ?_); rintro e w23 ⟨rfl, hb⟩; refine ⟨_, rfl, ?_⟩; have n0_ := Aside0.mk (blk_below (g := gb154) (o := .cells #[.bool ((rd_T36 l0 x3_1).f0.f0), .int .i64 ((rd_T36 l0 x3_1).f0.f1), .int .i64 ((rd_T36 l0 x3_1).f0.f2), .int .i64 ((rd_T36 l0 x3_1).f0.f3), .int .i64 ((rd_T36 l0 x3_1).f0.f4), .bool ((rd_T36 l0 x3_1).f0.f5), .int .i64 ((rd_T36 l0 x3_1).f1), .int .i64 ((rd_T36 l0 x3_1).f2)] 36 (0, 0)) (by (with_reducible repeat (first | refine blk_drewN ?_ _ | refine blk_drew ?_ | refine blk_alloc ?_ _)); exact BK154.out) hb); have n1_ := Aside0.mk (blk_below (g := gb155) (o := .cells #[.bool false, .int .i64 0, .int .i64 0, .int .i64 0, .int .i64 0, .bool false] 33 (0, 0)) (by (with_reducible repeat (first | refine blk_drewN ?_ _ | refine blk_drew ?_ | refine blk_alloc ?_ _)); exact BK155.out) hb); have n2_ := Aside0.mk (below_step (by repeat (first | (with_reducible first | exact HB.out | apply below_alloc | apply pw_below_drewN | apply below_drew1 | refine below_set ?_ GE154.out | refine below_set ?_ GE155.out) | exact HB.out)) hb); clear BK154; clear BK155; clear HB; have BK154 := n0_; have BK155 := n1_; have HB := n2_; clear n0_ n1_ n2_; (try clear hb); (try clear hb2); (try clear hk); (try clear hi); have hcz24_0 : w23.cell? ⟨gb154, 0, none⟩ = some (.bool ((rd_T36 l0 x3_1).f0.f0)) := (blk_cell BK154.out 0).trans rfl; have hcz24_1 : w23.cell? ⟨gb154, 1, none⟩ = some (.int .i64 ((rd_T36 l0 x3_1).f0.f1)) := (blk_cell BK154.out 1).trans rfl; have hcz24_2 : w23.cell? ⟨gb154, 2, none⟩ = some (.int .i64 ((rd_T36 l0 x3_1).f0.f2)) := (blk_cell BK154.out 2).trans rfl; have hcz24_3 : w23.cell? ⟨gb154, 3, none⟩ = some (.int .i64 ((rd_T36 l0 x3_1).f0.f3)) := (blk_cell BK154.out 3).trans rfl; have hcz24_4 : w23.cell? ⟨gb154, 4, none⟩ = some (.int .i64 ((rd_T36 l0 x3_1).f0.f4)) := (blk_cell BK154.out 4).trans rfl; have hcz24_5 : w23.cell? ⟨gb154, 5, none⟩ = some (.bool ((rd_T36 l0 x3_1).f0.f5)) := (blk_cell BK154.out 5).trans rfl; have hcz24_6 : w23.cell? ⟨gb154, 6, none⟩ = some (.int .i64 ((rd_T36 l0 x3_1).f1)) := (blk_cell BK154.out 6).trans rfl; have hcz24_7 : w23.cell? ⟨gb154, 7, none⟩ = some (.int .i64 ((rd_T36 l0 x3_1).f2)) := (blk_cell BK154.out 7).trans rfl; have hfz24_0 := blk_frozen BK154.out 0; have hfz24_1 := blk_frozen BK154.out 1; have hfz24_2 := blk_frozen BK154.out 2; have hfz24_3 := blk_frozen BK154.out 3; have hfz24_4 := blk_frozen BK154.out 4; have hfz24_5 := blk_frozen BK154.out 5; have hfz24_6 := blk_frozen BK154.out 6; have hfz24_7 := blk_frozen BK154.out 7) | (go_at_call 25; (with_reducible refine (gimbalref15_Mag.calls ((rd_T36 l0 x3_1).f1) true _ A13.out).mono ?_); rintro e w' ⟨rfl, ⟨nd, rfl⟩⟩) | (go_at_call 26; (with_reducible refine (gimbalref0_Time.calls ((rd_T36 l0 x3_1).f2) false _ A15.out).mono ?_); rintro e w' ⟨rfl, ⟨nd, rfl⟩⟩))
                        go_meet
                        case rel => exact ⟨_, (false), (by first | rfl | (simp; done) | (simp [*]; done)), H', ⟨by have := HK1.out; have := HJ1.out; first | omega | exact Nat.le_refl _⟩, ⟨by (with_reducible repeat (first | refine blk_drewN ?_ _ | refine blk_drew ?_ | refine blk_alloc ?_ _)); exact BK154.out⟩, ⟨by (with_reducible repeat (first | refine blk_drewN ?_ _ | refine blk_drew ?_ | refine blk_alloc ?_ _)); exact BK155.out⟩, ⟨by repeat (first | (with_reducible first | exact HB.out | apply below_alloc | apply pw_below_drewN | apply below_drew1 | refine below_set ?_ GE154.out | refine below_set ?_ GE155.out) | exact HB.out)⟩⟩
                    · replace c14 := Bool.eq_false_iff.mpr c14
                      subst c14
                      have H1 : (gimballaw21_MotionExact.j2 kj1 l0 x3_1 1 false false ((rd_T36 l0 x3_1).f0.f0) ((rd_T36 l0 x3_1).f0.f1) ((rd_T36 l0 x3_1).f0.f2) ((rd_T36 l0 x3_1).f0.f3) ((rd_T36 l0 x3_1).f0.f4) ((rd_T36 l0 x3_1).f0.f5) ((rd_T36 l0 x3_1).f1) ((rd_T36 l0 x3_1).f2) false 0 0 0 0 false) = some r := by rw [if_neg (show ¬ (false = true) by decide)] at H; exact H
                      clear H
                      have H := H1
                      clear H1
                      have H' := Aside0.mk H
                      clear H
                      have hnb25 := NB154_155.out
                      have hnc25 := NB155_154.out
                      have hcz26_0 : w10.cell? ⟨gb154, 0, none⟩ = some (.bool ((rd_T36 l0 x3_1).f0.f0)) := (blk_cell BK154.out 0).trans rfl
                      have hcz26_1 : w10.cell? ⟨gb154, 1, none⟩ = some (.int .i64 ((rd_T36 l0 x3_1).f0.f1)) := (blk_cell BK154.out 1).trans rfl
                      have hcz26_2 : w10.cell? ⟨gb154, 2, none⟩ = some (.int .i64 ((rd_T36 l0 x3_1).f0.f2)) := (blk_cell BK154.out 2).trans rfl
                      have hcz26_3 : w10.cell? ⟨gb154, 3, none⟩ = some (.int .i64 ((rd_T36 l0 x3_1).f0.f3)) := (blk_cell BK154.out 3).trans rfl
                      have hcz26_4 : w10.cell? ⟨gb154, 4, none⟩ = some (.int .i64 ((rd_T36 l0 x3_1).f0.f4)) := (blk_cell BK154.out 4).trans rfl
                      have hcz26_5 : w10.cell? ⟨gb154, 5, none⟩ = some (.bool ((rd_T36 l0 x3_1).f0.f5)) := (blk_cell BK154.out 5).trans rfl
                      have hcz26_6 : w10.cell? ⟨gb154, 6, none⟩ = some (.int .i64 ((rd_T36 l0 x3_1).f1)) := (blk_cell BK154.out 6).trans rfl
                      have hcz26_7 : w10.cell? ⟨gb154, 7, none⟩ = some (.int .i64 ((rd_T36 l0 x3_1).f2)) := (blk_cell BK154.out 7).trans rfl
                      have hfz26_0 := blk_frozen BK154.out 0
                      have hfz26_1 := blk_frozen BK154.out 1
                      have hfz26_2 := blk_frozen BK154.out 2
                      have hfz26_3 := blk_frozen BK154.out 3
                      have hfz26_4 := blk_frozen BK154.out 4
                      have hfz26_5 := blk_frozen BK154.out 5
                      have hfz26_6 := blk_frozen BK154.out 6
                      have hfz26_7 := blk_frozen BK154.out 7
                      go_wp2_with (first | ((with_reducible refine gate_callee (f := 24) rfl ?_); refine goesL_ (some 27) rfl rfl Try.func24 (by kernel_rfl) rfl #[.agg #[.bool ((rd_T36 l0 x3_1).f0.f0), .int .i64 ((rd_T36 l0 x3_1).f0.f1), .int .i64 ((rd_T36 l0 x3_1).f0.f2), .int .i64 ((rd_T36 l0 x3_1).f0.f3), .int .i64 ((rd_T36 l0 x3_1).f0.f4), .bool ((rd_T36 l0 x3_1).f0.f5)]] rfl (by (try simp only [List.map_toArray, List.map_cons, List.map_nil]); first | done | rfl | (simp only [List.length_drop, List.length_take]; rfl)) ?_; (with_reducible refine (gimbalref15_MayMotion.calls kj1 ((rd_T36 l0 x3_1).f0.f0) ((rd_T36 l0 x3_1).f0.f1) ((rd_T36 l0 x3_1).f0.f2) ((rd_T36 l0 x3_1).f0.f3) ((rd_T36 l0 x3_1).f0.f4) ((rd_T36 l0 x3_1).f0.f5) true _ A11.out).mono ?_); rintro e w27 ⟨rfl, hb⟩; refine ⟨_, rfl, ?_⟩; have n0_ := Aside0.mk (blk_below (g := gb154) (o := .cells #[.bool ((rd_T36 l0 x3_1).f0.f0), .int .i64 ((rd_T36 l0 x3_1).f0.f1), .int .i64 ((rd_T36 l0 x3_1).f0.f2), .int .i64 ((rd_T36 l0 x3_1).f0.f3), .int .i64 ((rd_T36 l0 x3_1).f0.f4), .bool ((rd_T36 l0 x3_1).f0.f5), .int .i64 ((rd_T36 l0 x3_1).f1), .int .i64 ((rd_T36 l0 x3_1).f2)] 36 (0, 0)) (by (with_reducible repeat (first | refine blk_drewN ?_ _ | refine blk_drew ?_ | refine blk_alloc ?_ _)); exact BK154.out) hb); have n1_ := Aside0.mk (blk_below (g := gb155) (o := .cells #[.bool false, .int .i64 0, .int .i64 0, .int .i64 0, .int .i64 0, .bool false] 33 (0, 0)) (by (with_reducible repeat (first | refine blk_drewN ?_ _ | refine blk_drew ?_ | refine blk_alloc ?_ _)); exact BK155.out) hb); have n2_ := Aside0.mk (below_step (by repeat (first | (with_reducible first | exact HB.out | apply below_alloc | apply pw_below_drewN | apply below_drew1 | refine below_set ?_ GE154.out | refine below_set ?_ GE155.out) | exact HB.out)) hb); clear BK154; clear BK155; clear HB; have BK154 := n0_; have BK155 := n1_; have HB := n2_; clear n0_ n1_ n2_; (try clear hb); (try clear hb2); (try clear hk); (try clear hi); have hcz28_0 : w27.cell? ⟨gb154, 0, none⟩ = some (.bool ((rd_T36 l0 x3_1).f0.f0)) := (blk_cell BK154.out 0).trans rfl; have hcz28_1 : w27.cell? ⟨gb154, 1, none⟩ = some (.int .i64 ((rd_T36 l0 x3_1).f0.f1)) := (blk_cell BK154.out 1).trans rfl; have hcz28_2 : w27.cell? ⟨gb154, 2, none⟩ = some (.int .i64 ((rd_T36 l0 x3_1).f0.f2)) := (blk_cell BK154.out 2).trans rfl; have hcz28_3 : w27.cell? ⟨gb154, 3, none⟩ = some (.int .i64 ((rd_T36 l0 x3_1).f0.f3)) := (blk_cell BK154.out 3).trans rfl; have hcz28_4 : w27.cell? ⟨gb154, 4, none⟩ = some (.int .i64 ((rd_T36 l0 x3_1).f0.f4)) := (blk_cell BK154.out 4).trans rfl; have hcz28_5 : w27.cell? ⟨gb154, 5, none⟩ = some (.bool ((rd_T36 l0 x3_1).f0.f5)) := (blk_cell BK154.out 5).trans rfl; have hcz28_6 : w27.cell? ⟨gb154, 6, none⟩ = some (.int .i64 ((rd_T36 l0 x3_1).f1)) := (blk_cell BK154.out 6).trans rfl; have hcz28_7 : w27.cell? ⟨gb154, 7, none⟩ = some (.int .i64 ((rd_T36 l0 x3_1).f2)) := (blk_cell BK154.out 7).trans rfl; have hfz28_0 := blk_frozen BK154.out 0; have hfz28_1 := blk_frozen BK154.out 1; have hfz28_2 := blk_frozen BK154.out 2; have hfz28_3 := blk_frozen BK154.out 3; have hfz28_4 := blk_frozen BK154.out 4; have hfz28_5 := blk_frozen BK154.out 5; have hfz28_6 := blk_frozen BK154.out 6; have hfz28_7 := blk_frozen BK154.out 7) | (go_at_call 25; (with_reducible refine (gimbalref15_Mag.calls ((rd_T36 l0 x3_1).f1) false _ A13.out).mono ?_); rintro e w' ⟨rfl, ⟨nd, rfl⟩⟩))
                      go_meet
                      case rel => exact ⟨_, (false), (by first | rfl | (simp; done) | (simp [*]; done)), H', ⟨by have := HK1.out; have := HJ1.out; first | omega | exact Nat.le_refl _⟩, ⟨by (with_reducible repeat (first | refine blk_drewN ?_ _ | refine blk_drew ?_ | refine blk_alloc ?_ _)); exact BK154.out⟩, ⟨by (with_reducible repeat (first | refine blk_drewN ?_ _ | refine blk_drew ?_ | refine blk_alloc ?_ _)); exact BK155.out⟩, ⟨by repeat (first | (with_reducible first | exact HB.out | apply below_alloc | apply pw_below_drewN | apply below_drew1 | refine below_set ?_ GE154.out | refine below_set ?_ GE155.out) | exact HB.out)⟩⟩
                  · replace c12 := Bool.eq_false_iff.mpr c12
                    subst c12
                    have H1 : (gimballaw21_MotionExact.j2 kj1 l0 x3_1 1 false false ((rd_T36 l0 x3_1).f0.f0) ((rd_T36 l0 x3_1).f0.f1) ((rd_T36 l0 x3_1).f0.f2) ((rd_T36 l0 x3_1).f0.f3) ((rd_T36 l0 x3_1).f0.f4) ((rd_T36 l0 x3_1).f0.f5) ((rd_T36 l0 x3_1).f1) ((rd_T36 l0 x3_1).f2) false 0 0 0 0 false) = some r := by rw [if_neg (show ¬ (false = true) by decide)] at H; exact H
                    clear H
                    have H := H1
                    clear H1
                    have H' := Aside0.mk H
                    clear H
                    have hnb29 := NB154_155.out
                    have hnc29 := NB155_154.out
                    have hcz30_0 : w10.cell? ⟨gb154, 0, none⟩ = some (.bool ((rd_T36 l0 x3_1).f0.f0)) := (blk_cell BK154.out 0).trans rfl
                    have hcz30_1 : w10.cell? ⟨gb154, 1, none⟩ = some (.int .i64 ((rd_T36 l0 x3_1).f0.f1)) := (blk_cell BK154.out 1).trans rfl
                    have hcz30_2 : w10.cell? ⟨gb154, 2, none⟩ = some (.int .i64 ((rd_T36 l0 x3_1).f0.f2)) := (blk_cell BK154.out 2).trans rfl
                    have hcz30_3 : w10.cell? ⟨gb154, 3, none⟩ = some (.int .i64 ((rd_T36 l0 x3_1).f0.f3)) := (blk_cell BK154.out 3).trans rfl
                    have hcz30_4 : w10.cell? ⟨gb154, 4, none⟩ = some (.int .i64 ((rd_T36 l0 x3_1).f0.f4)) := (blk_cell BK154.out 4).trans rfl
                    have hcz30_5 : w10.cell? ⟨gb154, 5, none⟩ = some (.bool ((rd_T36 l0 x3_1).f0.f5)) := (blk_cell BK154.out 5).trans rfl
                    have hcz30_6 : w10.cell? ⟨gb154, 6, none⟩ = some (.int .i64 ((rd_T36 l0 x3_1).f1)) := (blk_cell BK154.out 6).trans rfl
                    have hcz30_7 : w10.cell? ⟨gb154, 7, none⟩ = some (.int .i64 ((rd_T36 l0 x3_1).f2)) := (blk_cell BK154.out 7).trans rfl
                    have hfz30_0 := blk_frozen BK154.out 0
                    have hfz30_1 := blk_frozen BK154.out 1
                    have hfz30_2 := blk_frozen BK154.out 2
                    have hfz30_3 := blk_frozen BK154.out 3
                    have hfz30_4 := blk_frozen BK154.out 4
                    have hfz30_5 := blk_frozen BK154.out 5
                    have hfz30_6 := blk_frozen BK154.out 6
                    have hfz30_7 := blk_frozen BK154.out 7
                    go_wp2_with (first | ((with_reducible refine gate_callee (f := 24) rfl ?_); refine goesL_ (some 27) rfl rfl Try.func24 (by kernel_rfl) rfl #[.agg #[.bool ((rd_T36 l0 x3_1).f0.f0), .int .i64 ((rd_T36 l0 x3_1).f0.f1), .int .i64 ((rd_T36 l0 x3_1).f0.f2), .int .i64 ((rd_T36 l0 x3_1).f0.f3), .int .i64 ((rd_T36 l0 x3_1).f0.f4), .bool ((rd_T36 l0 x3_1).f0.f5)]] rfl (by (try simp only [List.map_toArray, List.map_cons, List.map_nil]); first | done | rfl | (simp only [List.length_drop, List.length_take]; rfl)) ?_; (with_reducible refine (gimbalref15_MayMotion.calls kj1 ((rd_T36 l0 x3_1).f0.f0) ((rd_T36 l0 x3_1).f0.f1) ((rd_T36 l0 x3_1).f0.f2) ((rd_T36 l0 x3_1).f0.f3) ((rd_T36 l0 x3_1).f0.f4) ((rd_T36 l0 x3_1).f0.f5) false _ A11.out).mono ?_); rintro e w31 ⟨rfl, hb⟩; refine ⟨_, rfl, ?_⟩; have n0_ := Aside0.mk (blk_below (g := gb154) (o := .cells #[.bool ((rd_T36 l0 x3_1).f0.f0), .int .i64 ((rd_T36 l0 x3_1).f0.f1), .int .i64 ((rd_T36 l0 x3_1).f0.f2), .int .i64 ((rd_T36 l0 x3_1).f0.f3), .int .i64 ((rd_T36 l0 x3_1).f0.f4), .bool ((rd_T36 l0 x3_1).f0.f5), .int .i64 ((rd_T36 l0 x3_1).f1), .int .i64 ((rd_T36 l0 x3_1).f2)] 36 (0, 0)) (by (with_reducible repeat (first | refine blk_drewN ?_ _ | refine blk_drew ?_ | refine blk_alloc ?_ _)); exact BK154.out) hb); have n1_ := Aside0.mk (blk_below (g := gb155) (o := .cells #[.bool false, .int .i64 0, .int .i64 0, .int .i64 0, .int .i64 0, .bool false] 33 (0, 0)) (by (with_reducible repeat (first | refine blk_drewN ?_ _ | refine blk_drew ?_ | refine blk_alloc ?_ _)); exact BK155.out) hb); have n2_ := Aside0.mk (below_step (by repeat (first | (with_reducible first | exact HB.out | apply below_alloc | apply pw_below_drewN | apply below_drew1 | refine below_set ?_ GE154.out | refine below_set ?_ GE155.out) | exact HB.out)) hb); clear BK154; clear BK155; clear HB; have BK154 := n0_; have BK155 := n1_; have HB := n2_; clear n0_ n1_ n2_; (try clear hb); (try clear hb2); (try clear hk); (try clear hi)))
                    go_meet
                    case rel => exact ⟨_, (false), (by first | rfl | (simp; done) | (simp [*]; done)), H', ⟨by have := HK1.out; have := HJ1.out; first | omega | exact Nat.le_refl _⟩, ⟨by (with_reducible repeat (first | refine blk_drewN ?_ _ | refine blk_drew ?_ | refine blk_alloc ?_ _)); exact BK154.out⟩, ⟨by (with_reducible repeat (first | refine blk_drewN ?_ _ | refine blk_drew ?_ | refine blk_alloc ?_ _)); exact BK155.out⟩, ⟨by repeat (first | (with_reducible first | exact HB.out | apply below_alloc | apply pw_below_drewN | apply below_drew1 | refine below_set ?_ GE154.out | refine below_set ?_ GE155.out) | exact HB.out)⟩⟩
                case rest =>
                  clear HC7
                  try clear c1
                  try clear p1
                  try clear q1
                  try clear hx1
                  try clear c2
                  try clear p2
                  try clear c3
                  try clear c3b0
                  try clear c4
                  try clear c5
                  try clear c5b0
                  try clear c6
                  try clear c6b0
                  try clear c12
                  try clear c14
                  try clear p15
                  try clear q15
                  try clear hx15
                  try clear c16
                  try clear c17
                  try clear c21
                  try clear c24
                  try clear c25
                  try clear c29
                  try clear hcz18_0
                  try clear hcz18_1
                  try clear hcz18_2
                  try clear hcz18_3
                  try clear hcz18_4
                  try clear hcz18_5
                  try clear hcz18_6
                  try clear hcz18_7
                  try clear hcz20_0
                  try clear hcz20_1
                  try clear hcz20_2
                  try clear hcz20_3
                  try clear hcz20_4
                  try clear hcz20_5
                  try clear hcz20_6
                  try clear hcz20_7
                  try clear hcz22_0
                  try clear hcz22_1
                  try clear hcz22_2
                  try clear hcz22_3
                  try clear hcz22_4
                  try clear hcz22_5
                  try clear hcz22_6
                  try clear hcz22_7
                  try clear hcz24_0
                  try clear hcz24_1
                  try clear hcz24_2
                  try clear hcz24_3
                  try clear hcz24_4
                  try clear hcz24_5
                  try clear hcz24_6
                  try clear hcz24_7
                  try clear hcz26_0
                  try clear hcz26_1
                  try clear hcz26_2
                  try clear hcz26_3
                  try clear hcz26_4
                  try clear hcz26_5
                  try clear hcz26_6
                  try clear hcz26_7
                  try clear hcz28_0
                  try clear hcz28_1
                  try clear hcz28_2
                  try clear hcz28_3
                  try clear hcz28_4
                  try clear hcz28_5
                  try clear hcz28_6
                  try clear hcz28_7
                  try clear hcz30_0
                  try clear hcz30_1
                  try clear hcz30_2
                  try clear hcz30_3
                  try clear hcz30_4
                  try clear hcz30_5
                  try clear hcz30_6
                  try clear hcz30_7
                  try clear hcz9_0
                  try clear hcz9_1
                  try clear hcz9_2
                  try clear hcz9_3
                  try clear hcz9_4
                  try clear hcz9_5
                  try clear hcz9_6
                  try clear hcz9_7
                  try clear hfz18_0
                  try clear hfz18_1
                  try clear hfz18_2
                  try clear hfz18_3
                  try clear hfz18_4
                  try clear hfz18_5
                  try clear hfz18_6
                  try clear hfz18_7
                  try clear hfz20_0
                  try clear hfz20_1
                  try clear hfz20_2
                  try clear hfz20_3
                  try clear hfz20_4
                  try clear hfz20_5
                  try clear hfz20_6
                  try clear hfz20_7
                  try clear hfz22_0
                  try clear hfz22_1
                  try clear hfz22_2
                  try clear hfz22_3
                  try clear hfz22_4
                  try clear hfz22_5
                  try clear hfz22_6
                  try clear hfz22_7
                  try clear hfz24_0
                  try clear hfz24_1
                  try clear hfz24_2
                  try clear hfz24_3
                  try clear hfz24_4
                  try clear hfz24_5
                  try clear hfz24_6
                  try clear hfz24_7
                  try clear hfz26_0
                  try clear hfz26_1
                  try clear hfz26_2
                  try clear hfz26_3
                  try clear hfz26_4
                  try clear hfz26_5
                  try clear hfz26_6
                  try clear hfz26_7
                  try clear hfz28_0
                  try clear hfz28_1
                  try clear hfz28_2
                  try clear hfz28_3
                  try clear hfz28_4
                  try clear hfz28_5
                  try clear hfz28_6
                  try clear hfz28_7
                  try clear hfz30_0
                  try clear hfz30_1
                  try clear hfz30_2
                  try clear hfz30_3
                  try clear hfz30_4
                  try clear hfz30_5
                  try clear hfz30_6
                  try clear hfz30_7
                  try clear hfz9_0
                  try clear hfz9_1
                  try clear hfz9_2
                  try clear hfz9_3
                  try clear hfz9_4
                  try clear hfz9_5
                  try clear hfz9_6
                  try clear hfz9_7
                  try clear hx153_0
                  try clear hx153_1
                  try clear hx153_2
                  try clear hx153_3
                  try clear hx153_4
                  try clear hx153_5
                  try clear hx153_6
                  try clear hx153_7
                  try clear p153
                  try clear p2
                  try clear q153
                  obtain ⟨kq, x45_6, rfl, HA, HJ6, BK154, BK155, HB⟩ := hcut
                  cases kq with
                  | zero => exact absurd HA.out (by simp [gimballaw21_MotionExact.j2])
                  | succ kj6 =>
                    have H := HA.out
                    clear HA
                    simp only [gimballaw21_MotionExact.j2] at H
                    have HC32 := Aside0.mk H
                    clear H
                    go_upto_if 45 with (fail)
                    go_cut [5, 7] (fun v5 v7 wc => ∃ (kq : Nat) (x5_31 : Int) (x7_31 : Bool) (x156000_31 : Bool) (x156001_31 : Int) (x156002_31 : Int) (x156003_31 : Int) (x156004_31 : Int) (x156005_31 : Bool), v5 = .int .i64 x5_31 ∧ v7 = .bool x7_31 ∧ Aside0 (gimballaw21_MotionExact.j3 kq l0 x3_1 x5_31 x7_31 ((rd_T36 l0 x3_1).f0.f0) ((rd_T36 l0 x3_1).f0.f1) ((rd_T36 l0 x3_1).f0.f2) ((rd_T36 l0 x3_1).f0.f3) ((rd_T36 l0 x3_1).f0.f4) ((rd_T36 l0 x3_1).f0.f5) ((rd_T36 l0 x3_1).f1) ((rd_T36 l0 x3_1).f2) x156000_31 x156001_31 x156002_31 x156003_31 x156004_31 x156005_31 = some r) ∧ Aside0 (kq ≤ kj6) ∧ Aside0 (wc.heap[gb154]? = some (.cells #[.bool ((rd_T36 l0 x3_1).f0.f0), .int .i64 ((rd_T36 l0 x3_1).f0.f1), .int .i64 ((rd_T36 l0 x3_1).f0.f2), .int .i64 ((rd_T36 l0 x3_1).f0.f3), .int .i64 ((rd_T36 l0 x3_1).f0.f4), .bool ((rd_T36 l0 x3_1).f0.f5), .int .i64 ((rd_T36 l0 x3_1).f1), .int .i64 ((rd_T36 l0 x3_1).f2)] 36 (0, 0))) ∧ Aside0 (wc.heap[gb155]? = some (.cells #[.bool x156000_31, .int .i64 x156001_31, .int .i64 x156002_31, .int .i64 x156003_31, .int .i64 x156004_31, .bool x156005_31] 33 (0, 0))) ∧ Aside0 (Below w.heap.size w wc))
                    case first =>
                      have H := HC32.out
                      clear HC32
                      by_cases c33 : x45_6 = true
                      · subst c33
                        have H1 : ((gimbalref15_Motion.f kj6 ((rd_T36 l0 x3_1).f0.f0) ((rd_T36 l0 x3_1).f0.f1) ((rd_T36 l0 x3_1).f0.f2) ((rd_T36 l0 x3_1).f0.f3) ((rd_T36 l0 x3_1).f0.f4) ((rd_T36 l0 x3_1).f0.f5) ((rd_T36 l0 x3_1).f1) ((rd_T36 l0 x3_1).f2)).bind fun bt159 => (gimballaw21_MotionExact.j3 kj6 l0 x3_1 0 bt159.2.2.2.2.2.2 ((rd_T36 l0 x3_1).f0.f0) ((rd_T36 l0 x3_1).f0.f1) ((rd_T36 l0 x3_1).f0.f2) ((rd_T36 l0 x3_1).f0.f3) ((rd_T36 l0 x3_1).f0.f4) ((rd_T36 l0 x3_1).f0.f5) ((rd_T36 l0 x3_1).f1) ((rd_T36 l0 x3_1).f2) bt159.1 bt159.2.1 bt159.2.2.1 bt159.2.2.2.1 bt159.2.2.2.2.1 bt159.2.2.2.2.2.1)) = some r := by rw [if_pos rfl] at H; exact H
                        clear H
                        have H := H1
                        clear H1
                        replace H := Option.bind_eq_some_iff.mp H
                        obtain ⟨⟨t159, t160, t161, t162, t163, t164, t165⟩, A340, H⟩ := H
                        replace H : (gimballaw21_MotionExact.j3 kj6 l0 x3_1 0 t165 ((rd_T36 l0 x3_1).f0.f0) ((rd_T36 l0 x3_1).f0.f1) ((rd_T36 l0 x3_1).f0.f2) ((rd_T36 l0 x3_1).f0.f3) ((rd_T36 l0 x3_1).f0.f4) ((rd_T36 l0 x3_1).f0.f5) ((rd_T36 l0 x3_1).f1) ((rd_T36 l0 x3_1).f2) t159 t160 t161 t162 t163 t164) = some r := H
                        have A34 := Aside0.mk A340
                        clear A340
                        have H' := Aside0.mk H
                        clear H
                        have hnb35 := NB154_155.out
                        have hnc35 := NB155_154.out
                        have hcz36_0 : wc.cell? ⟨gb154, 0, none⟩ = some (.bool ((rd_T36 l0 x3_1).f0.f0)) := (blk_cell BK154.out 0).trans rfl
                        have hcz36_1 : wc.cell? ⟨gb154, 1, none⟩ = some (.int .i64 ((rd_T36 l0 x3_1).f0.f1)) := (blk_cell BK154.out 1).trans rfl
                        have hcz36_2 : wc.cell? ⟨gb154, 2, none⟩ = some (.int .i64 ((rd_T36 l0 x3_1).f0.f2)) := (blk_cell BK154.out 2).trans rfl
                        have hcz36_3 : wc.cell? ⟨gb154, 3, none⟩ = some (.int .i64 ((rd_T36 l0 x3_1).f0.f3)) := (blk_cell BK154.out 3).trans rfl
                        have hcz36_4 : wc.cell? ⟨gb154, 4, none⟩ = some (.int .i64 ((rd_T36 l0 x3_1).f0.f4)) := (blk_cell BK154.out 4).trans rfl
                        have hcz36_5 : wc.cell? ⟨gb154, 5, none⟩ = some (.bool ((rd_T36 l0 x3_1).f0.f5)) := (blk_cell BK154.out 5).trans rfl
                        have hcz36_6 : wc.cell? ⟨gb154, 6, none⟩ = some (.int .i64 ((rd_T36 l0 x3_1).f1)) := (blk_cell BK154.out 6).trans rfl
                        have hcz36_7 : wc.cell? ⟨gb154, 7, none⟩ = some (.int .i64 ((rd_T36 l0 x3_1).f2)) := (blk_cell BK154.out 7).trans rfl
                        have hfz36_0 := blk_frozen BK154.out 0
                        have hfz36_1 := blk_frozen BK154.out 1
                        have hfz36_2 := blk_frozen BK154.out 2
                        have hfz36_3 := blk_frozen BK154.out 3
                        have hfz36_4 := blk_frozen BK154.out 4
                        have hfz36_5 := blk_frozen BK154.out 5
                        have hfz36_6 := blk_frozen BK154.out 6
                        have hfz36_7 := blk_frozen BK154.out 7
                        go_wp2_with (first | ((with_reducible refine gate_callee (f := 27) rfl ?_); refine goesL_ (some 53) rfl rfl Try.func27 (by kernel_rfl) rfl #[.agg #[.bool ((rd_T36 l0 x3_1).f0.f0), .int .i64 ((rd_T36 l0 x3_1).f0.f1), .int .i64 ((rd_T36 l0 x3_1).f0.f2), .int .i64 ((rd_T36 l0 x3_1).f0.f3), .int .i64 ((rd_T36 l0 x3_1).f0.f4), .bool ((rd_T36 l0 x3_1).f0.f5)], .int .i64 ((rd_T36 l0 x3_1).f1), .int .i64 ((rd_T36 l0 x3_1).f2)] rfl (by (try simp only [List.map_toArray, List.map_cons, List.map_nil]); first | done | rfl | (simp only [List.length_drop, List.length_take]; rfl)) ?_; (with_reducible refine (gimbalref15_Motion.calls kj6 ((rd_T36 l0 x3_1).f0.f0) ((rd_T36 l0 x3_1).f0.f1) ((rd_T36 l0 x3_1).f0.f2) ((rd_T36 l0 x3_1).f0.f3) ((rd_T36 l0 x3_1).f0.f4) ((rd_T36 l0 x3_1).f0.f5) ((rd_T36 l0 x3_1).f1) ((rd_T36 l0 x3_1).f2) t159 t160 t161 t162 t163 t164 t165 _ A34.out).mono ?_); rintro e w37 ⟨rfl, hb⟩; refine ⟨_, rfl, ?_⟩; have n0_ := Aside0.mk (blk_below (g := gb154) (o := .cells #[.bool ((rd_T36 l0 x3_1).f0.f0), .int .i64 ((rd_T36 l0 x3_1).f0.f1), .int .i64 ((rd_T36 l0 x3_1).f0.f2), .int .i64 ((rd_T36 l0 x3_1).f0.f3), .int .i64 ((rd_T36 l0 x3_1).f0.f4), .bool ((rd_T36 l0 x3_1).f0.f5), .int .i64 ((rd_T36 l0 x3_1).f1), .int .i64 ((rd_T36 l0 x3_1).f2)] 36 (0, 0)) (by (with_reducible repeat (first | refine blk_drewN ?_ _ | refine blk_drew ?_ | refine blk_alloc ?_ _)); exact BK154.out) hb); have n1_ := Aside0.mk (blk_below (g := gb155) (o := .cells #[.bool false, .int .i64 0, .int .i64 0, .int .i64 0, .int .i64 0, .bool false] 33 (0, 0)) (by (with_reducible repeat (first | refine blk_drewN ?_ _ | refine blk_drew ?_ | refine blk_alloc ?_ _)); exact BK155.out) hb); have n2_ := Aside0.mk (below_step (by repeat (first | (with_reducible first | exact HB.out | apply below_alloc | apply pw_below_drewN | apply below_drew1 | refine below_set ?_ GE154.out | refine below_set ?_ GE155.out) | exact HB.out)) hb); clear BK154; clear BK155; clear HB; have BK154 := n0_; have BK155 := n1_; have HB := n2_; clear n0_ n1_ n2_; (try clear hb); (try clear hb2); (try clear hk); (try clear hi); have hcz38_0 : w37.cell? ⟨gb155, 0, none⟩ = some (.bool false) := (blk_cell BK155.out 0).trans rfl; have hcz38_1 : w37.cell? ⟨gb155, 1, none⟩ = some (.int .i64 0) := (blk_cell BK155.out 1).trans rfl; have hcz38_2 : w37.cell? ⟨gb155, 2, none⟩ = some (.int .i64 0) := (blk_cell BK155.out 2).trans rfl; have hcz38_3 : w37.cell? ⟨gb155, 3, none⟩ = some (.int .i64 0) := (blk_cell BK155.out 3).trans rfl; have hcz38_4 : w37.cell? ⟨gb155, 4, none⟩ = some (.int .i64 0) := (blk_cell BK155.out 4).trans rfl; have hcz38_5 : w37.cell? ⟨gb155, 5, none⟩ = some (.bool false) := (blk_cell BK155.out 5).trans rfl; have hfz38_0 := blk_frozen BK155.out 0; have hfz38_1 := blk_frozen BK155.out 1; have hfz38_2 := blk_frozen BK155.out 2; have hfz38_3 := blk_frozen BK155.out 3; have hfz38_4 := blk_frozen BK155.out 4; have hfz38_5 := blk_frozen BK155.out 5))
                        go_meet
                        case rel => exact ⟨_, (0), (t165), (t159), (t160), (t161), (t162), (t163), (t164), (by first | rfl | (simp; done) | (simp [*]; done)), (by first | rfl | (simp; done) | (simp [*]; done)), H', ⟨by have := HK1.out; have := HJ1.out; have := HJ6.out; first | omega | exact Nat.le_refl _⟩, ⟨by (with_reducible repeat (first | refine blk_drewN ?_ _ | refine blk_drew ?_ | refine blk_alloc ?_ _)); refine blk_far ?_ NB154_155.out _; (with_reducible repeat (first | refine blk_drewN ?_ _ | refine blk_drew ?_ | refine blk_alloc ?_ _)); refine blk_far ?_ NB154_155.out _; (with_reducible repeat (first | refine blk_drewN ?_ _ | refine blk_drew ?_ | refine blk_alloc ?_ _)); refine blk_far ?_ NB154_155.out _; (with_reducible repeat (first | refine blk_drewN ?_ _ | refine blk_drew ?_ | refine blk_alloc ?_ _)); refine blk_far ?_ NB154_155.out _; (with_reducible repeat (first | refine blk_drewN ?_ _ | refine blk_drew ?_ | refine blk_alloc ?_ _)); refine blk_far ?_ NB154_155.out _; (with_reducible repeat (first | refine blk_drewN ?_ _ | refine blk_drew ?_ | refine blk_alloc ?_ _)); refine blk_far ?_ NB154_155.out _; (with_reducible repeat (first | refine blk_drewN ?_ _ | refine blk_drew ?_ | refine blk_alloc ?_ _)); exact BK154.out⟩, ⟨by (with_reducible repeat (first | refine blk_drewN ?_ _ | refine blk_drew ?_ | refine blk_alloc ?_ _)); refine blk_put (cs := #[.bool t159, .int .i64 t160, .int .i64 t161, .int .i64 t162, .int .i64 t163, .bool false]) ?_ 5 _ rfl; (with_reducible repeat (first | refine blk_drewN ?_ _ | refine blk_drew ?_ | refine blk_alloc ?_ _)); refine blk_put (cs := #[.bool t159, .int .i64 t160, .int .i64 t161, .int .i64 t162, .int .i64 0, .bool false]) ?_ 4 _ rfl; (with_reducible repeat (first | refine blk_drewN ?_ _ | refine blk_drew ?_ | refine blk_alloc ?_ _)); refine blk_put (cs := #[.bool t159, .int .i64 t160, .int .i64 t161, .int .i64 0, .int .i64 0, .bool false]) ?_ 3 _ rfl; (with_reducible repeat (first | refine blk_drewN ?_ _ | refine blk_drew ?_ | refine blk_alloc ?_ _)); refine blk_put (cs := #[.bool t159, .int .i64 t160, .int .i64 0, .int .i64 0, .int .i64 0, .bool false]) ?_ 2 _ rfl; (with_reducible repeat (first | refine blk_drewN ?_ _ | refine blk_drew ?_ | refine blk_alloc ?_ _)); refine blk_put (cs := #[.bool t159, .int .i64 0, .int .i64 0, .int .i64 0, .int .i64 0, .bool false]) ?_ 1 _ rfl; (with_reducible repeat (first | refine blk_drewN ?_ _ | refine blk_drew ?_ | refine blk_alloc ?_ _)); refine blk_put (cs := #[.bool false, .int .i64 0, .int .i64 0, .int .i64 0, .int .i64 0, .bool false]) ?_ 0 _ rfl; (with_reducible repeat (first | refine blk_drewN ?_ _ | refine blk_drew ?_ | refine blk_alloc ?_ _)); exact BK155.out⟩, ⟨by repeat (first | (with_reducible first | exact HB.out | apply below_alloc | apply pw_below_drewN | apply below_drew1 | refine below_set ?_ GE154.out | refine below_set ?_ GE155.out) | exact HB.out)⟩⟩
                      · replace c33 := Bool.eq_false_iff.mpr c33
                        subst c33
                        have H1 : (gimballaw21_MotionExact.j3 kj6 l0 x3_1 1 false ((rd_T36 l0 x3_1).f0.f0) ((rd_T36 l0 x3_1).f0.f1) ((rd_T36 l0 x3_1).f0.f2) ((rd_T36 l0 x3_1).f0.f3) ((rd_T36 l0 x3_1).f0.f4) ((rd_T36 l0 x3_1).f0.f5) ((rd_T36 l0 x3_1).f1) ((rd_T36 l0 x3_1).f2) false 0 0 0 0 false) = some r := by rw [if_neg (show ¬ (false = true) by decide)] at H; exact H
                        clear H
                        have H := H1
                        clear H1
                        have H' := Aside0.mk H
                        clear H
                        go_wp2
                        go_meet
                        case rel => exact ⟨_, (1), (false), (false), (0), (0), (0), (0), (false), (by first | rfl | (simp; done) | (simp [*]; done)), (by first | rfl | (simp; done) | (simp [*]; done)), H', ⟨by have := HK1.out; have := HJ1.out; have := HJ6.out; first | omega | exact Nat.le_refl _⟩, ⟨by (with_reducible repeat (first | refine blk_drewN ?_ _ | refine blk_drew ?_ | refine blk_alloc ?_ _)); exact BK154.out⟩, ⟨by (with_reducible repeat (first | refine blk_drewN ?_ _ | refine blk_drew ?_ | refine blk_alloc ?_ _)); exact BK155.out⟩, ⟨by repeat (first | (with_reducible first | exact HB.out | apply below_alloc | apply pw_below_drewN | apply below_drew1 | refine below_set ?_ GE154.out | refine below_set ?_ GE155.out) | exact HB.out)⟩⟩
                    case rest =>
                      clear HC32
                      try clear c1
                      try clear p1
                      try clear q1
                      try clear hx1
                      try clear c2
                      try clear p2
                      try clear c3
                      try clear c3b0
                      try clear c4
                      try clear c5
                      try clear c5b0
                      try clear c6
                      try clear c6b0
                      try clear c12
                      try clear c14
                      try clear p15
                      try clear q15
                      try clear hx15
                      try clear c16
                      try clear c17
                      try clear c21
                      try clear c24
                      try clear c25
                      try clear c27
                      try clear c29
                      try clear c33
                      try clear c35
                      try clear hcz18_0
                      try clear hcz18_1
                      try clear hcz18_2
                      try clear hcz18_3
                      try clear hcz18_4
                      try clear hcz18_5
                      try clear hcz18_6
                      try clear hcz18_7
                      try clear hcz20_0
                      try clear hcz20_1
                      try clear hcz20_2
                      try clear hcz20_3
                      try clear hcz20_4
                      try clear hcz20_5
                      try clear hcz20_6
                      try clear hcz20_7
                      try clear hcz22_0
                      try clear hcz22_1
                      try clear hcz22_2
                      try clear hcz22_3
                      try clear hcz22_4
                      try clear hcz22_5
                      try clear hcz22_6
                      try clear hcz22_7
                      try clear hcz24_0
                      try clear hcz24_1
                      try clear hcz24_2
                      try clear hcz24_3
                      try clear hcz24_4
                      try clear hcz24_5
                      try clear hcz24_6
                      try clear hcz24_7
                      try clear hcz26_0
                      try clear hcz26_1
                      try clear hcz26_2
                      try clear hcz26_3
                      try clear hcz26_4
                      try clear hcz26_5
                      try clear hcz26_6
                      try clear hcz26_7
                      try clear hcz28_0
                      try clear hcz28_1
                      try clear hcz28_2
                      try clear hcz28_3
                      try clear hcz28_4
                      try clear hcz28_5
                      try clear hcz28_6
                      try clear hcz28_7
                      try clear hcz30_0
                      try clear hcz30_1
                      try clear hcz30_2
                      try clear hcz30_3
                      try clear hcz30_4
                      try clear hcz30_5
                      try clear hcz30_6
                      try clear hcz30_7
                      try clear hcz36_0
                      try clear hcz36_1
                      try clear hcz36_2
                      try clear hcz36_3
                      try clear hcz36_4
                      try clear hcz36_5
                      try clear hcz36_6
                      try clear hcz36_7
                      try clear hcz38_0
                      try clear hcz38_1
                      try clear hcz38_2
                      try clear hcz38_3
                      try clear hcz38_4
                      try clear hcz38_5
                      try clear hcz9_0
                      try clear hcz9_1
                      try clear hcz9_2
                      try clear hcz9_3
                      try clear hcz9_4
                      try clear hcz9_5
                      try clear hcz9_6
                      try clear hcz9_7
                      try clear hfz18_0
                      try clear hfz18_1
                      try clear hfz18_2
                      try clear hfz18_3
                      try clear hfz18_4
                      try clear hfz18_5
                      try clear hfz18_6
                      try clear hfz18_7
                      try clear hfz20_0
                      try clear hfz20_1
                      try clear hfz20_2
                      try clear hfz20_3
                      try clear hfz20_4
                      try clear hfz20_5
                      try clear hfz20_6
                      try clear hfz20_7
                      try clear hfz22_0
                      try clear hfz22_1
                      try clear hfz22_2
                      try clear hfz22_3
                      try clear hfz22_4
                      try clear hfz22_5
                      try clear hfz22_6
                      try clear hfz22_7
                      try clear hfz24_0
                      try clear hfz24_1
                      try clear hfz24_2
                      try clear hfz24_3
                      try clear hfz24_4
                      try clear hfz24_5
                      try clear hfz24_6
                      try clear hfz24_7
                      try clear hfz26_0
                      try clear hfz26_1
                      try clear hfz26_2
                      try clear hfz26_3
                      try clear hfz26_4
                      try clear hfz26_5
                      try clear hfz26_6
                      try clear hfz26_7
                      try clear hfz28_0
                      try clear hfz28_1
                      try clear hfz28_2
                      try clear hfz28_3
                      try clear hfz28_4
                      try clear hfz28_5
                      try clear hfz28_6
                      try clear hfz28_7
                      try clear hfz30_0
                      try clear hfz30_1
                      try clear hfz30_2
                      try clear hfz30_3
                      try clear hfz30_4
                      try clear hfz30_5
                      try clear hfz30_6
                      try clear hfz30_7
                      try clear hfz36_0
                      try clear hfz36_1
                      try clear hfz36_2
                      try clear hfz36_3
                      try clear hfz36_4
                      try clear hfz36_5
                      try clear hfz36_6
                      try clear hfz36_7
                      try clear hfz38_0
                      try clear hfz38_1
                      try clear hfz38_2
                      try clear hfz38_3
                      try clear hfz38_4
                      try clear hfz38_5
                      try clear hfz9_0
                      try clear hfz9_1
                      try clear hfz9_2
                      try clear hfz9_3
                      try clear hfz9_4
                      try clear hfz9_5
                      try clear hfz9_6
                      try clear hfz9_7
                      try clear hx153_0
                      try clear hx153_1
                      try clear hx153_2
                      try clear hx153_3
                      try clear hx153_4
                      try clear hx153_5
                      try clear hx153_6
                      try clear hx153_7
                      try clear p1
                      try clear p15
                      try clear p153
                      try clear p2
                      try clear q1
                      try clear q15
                      try clear q153
                      obtain ⟨kq, x5_31, x7_31, x156000_31, x156001_31, x156002_31, x156003_31, x156004_31, x156005_31, rfl, rfl, HA, HJ31, BK154, BK155, HB⟩ := hcut
                      cases kq with
                      | zero => exact absurd HA.out (by simp [gimballaw21_MotionExact.j3])
                      | succ kj31 =>
                        have H := HA.out
                        clear HA
                        simp only [gimballaw21_MotionExact.j3] at H
                        replace H := Option.bind_eq_some_iff.mp H
                        obtain ⟨⟨t166, t167, t168, t169, t170, t171, t172, t173⟩, A390, H⟩ := H
                        replace H : ((gimballaw21_num.f t173).bind fun t175 => (if t175 = x5_31 then (if (!(t166 == x156000_31) || (!(t167 == x156001_31) || (!(t168 == x156002_31) || (!(t169 == x156003_31) || (!(t170 == x156004_31) || (!(t171 == x156005_31))))))) = true then (some false) else (if (t172 != x7_31) = true then (some false) else (gimballaw21_MotionExact.l0 kj31 l0 (wrap64 (x3_1 + 1))))) else (some false))) = some r := H
                        have A39 := Aside0.mk A390
                        clear A390
                        replace H := Option.bind_eq_some_iff.mp H
                        obtain ⟨t175, A400, H⟩ := H
                        replace H : (if t175 = x5_31 then (if (!(t166 == x156000_31) || (!(t167 == x156001_31) || (!(t168 == x156002_31) || (!(t169 == x156003_31) || (!(t170 == x156004_31) || (!(t171 == x156005_31))))))) = true then (some false) else (if (t172 != x7_31) = true then (some false) else (gimballaw21_MotionExact.l0 kj31 l0 (wrap64 (x3_1 + 1))))) else (some false)) = some r := H
                        have A40 := Aside0.mk A400
                        clear A400
                        by_cases c41 : t175 = x5_31
                        · rw [if_pos c41] at H
                          have c41b0 : (t175 == x5_31) = true := beq_iff_eq.mpr c41
                          have c41b1 : (t175 != x5_31) = false := bne_eq_false_iff_eq.mpr c41
                          clear c41
                          by_cases c42 : (!(t166 == x156000_31) || (!(t167 == x156001_31) || (!(t168 == x156002_31) || (!(t169 == x156003_31) || (!(t170 == x156004_31) || (!(t171 == x156005_31))))))) = true
                          · rw [if_pos c42] at H
                            have c42b0 : (!(t166 == x156000_31) || (!(t167 == x156001_31) || (!(t168 == x156002_31) || (!(t169 == x156003_31) || (!(t170 == x156004_31) || (!(t171 == x156005_31))))))) = true := c42
                            clear c42
                            obtain rfl := Option.some.inj H
                            have hnb43 := NB154_155.out
                            have hnc43 := NB155_154.out
                            have hcz44_0 : wc.cell? ⟨gb154, 0, none⟩ = some (.bool ((rd_T36 l0 x3_1).f0.f0)) := (blk_cell BK154.out 0).trans rfl
                            have hcz44_1 : wc.cell? ⟨gb154, 1, none⟩ = some (.int .i64 ((rd_T36 l0 x3_1).f0.f1)) := (blk_cell BK154.out 1).trans rfl
                            have hcz44_2 : wc.cell? ⟨gb154, 2, none⟩ = some (.int .i64 ((rd_T36 l0 x3_1).f0.f2)) := (blk_cell BK154.out 2).trans rfl
                            have hcz44_3 : wc.cell? ⟨gb154, 3, none⟩ = some (.int .i64 ((rd_T36 l0 x3_1).f0.f3)) := (blk_cell BK154.out 3).trans rfl
                            have hcz44_4 : wc.cell? ⟨gb154, 4, none⟩ = some (.int .i64 ((rd_T36 l0 x3_1).f0.f4)) := (blk_cell BK154.out 4).trans rfl
                            have hcz44_5 : wc.cell? ⟨gb154, 5, none⟩ = some (.bool ((rd_T36 l0 x3_1).f0.f5)) := (blk_cell BK154.out 5).trans rfl
                            have hcz44_6 : wc.cell? ⟨gb154, 6, none⟩ = some (.int .i64 ((rd_T36 l0 x3_1).f1)) := (blk_cell BK154.out 6).trans rfl
                            have hcz44_7 : wc.cell? ⟨gb154, 7, none⟩ = some (.int .i64 ((rd_T36 l0 x3_1).f2)) := (blk_cell BK154.out 7).trans rfl
                            have hfz44_0 := blk_frozen BK154.out 0
                            have hfz44_1 := blk_frozen BK154.out 1
                            have hfz44_2 := blk_frozen BK154.out 2
                            have hfz44_3 := blk_frozen BK154.out 3
                            have hfz44_4 := blk_frozen BK154.out 4
                            have hfz44_5 := blk_frozen BK154.out 5
                            have hfz44_6 := blk_frozen BK154.out 6
                            have hfz44_7 := blk_frozen BK154.out 7
                            go_wp2_with (first | ((with_reducible refine gate_callee (f := 21) rfl ?_); refine goesL_ (some 63) rfl rfl Try.func21 (by kernel_rfl) rfl #[.agg #[.bool ((rd_T36 l0 x3_1).f0.f0), .int .i64 ((rd_T36 l0 x3_1).f0.f1), .int .i64 ((rd_T36 l0 x3_1).f0.f2), .int .i64 ((rd_T36 l0 x3_1).f0.f3), .int .i64 ((rd_T36 l0 x3_1).f0.f4), .bool ((rd_T36 l0 x3_1).f0.f5)], .int .i64 ((rd_T36 l0 x3_1).f1), .int .i64 ((rd_T36 l0 x3_1).f2)] rfl (by (try simp only [List.map_toArray, List.map_cons, List.map_nil]); first | done | rfl | (simp only [List.length_drop, List.length_take]; rfl)) ?_; (with_reducible refine (motion_Take.calls kj31 ((rd_T36 l0 x3_1).f0.f0) ((rd_T36 l0 x3_1).f0.f1) ((rd_T36 l0 x3_1).f0.f2) ((rd_T36 l0 x3_1).f0.f3) ((rd_T36 l0 x3_1).f0.f4) ((rd_T36 l0 x3_1).f0.f5) ((rd_T36 l0 x3_1).f1) ((rd_T36 l0 x3_1).f2) t166 t167 t168 t169 t170 t171 t172 t173 _ A39.out).mono ?_); rintro e w45 ⟨rfl, hb⟩; refine ⟨_, rfl, ?_⟩; have n0_ := Aside0.mk (blk_below (g := gb154) (o := .cells #[.bool ((rd_T36 l0 x3_1).f0.f0), .int .i64 ((rd_T36 l0 x3_1).f0.f1), .int .i64 ((rd_T36 l0 x3_1).f0.f2), .int .i64 ((rd_T36 l0 x3_1).f0.f3), .int .i64 ((rd_T36 l0 x3_1).f0.f4), .bool ((rd_T36 l0 x3_1).f0.f5), .int .i64 ((rd_T36 l0 x3_1).f1), .int .i64 ((rd_T36 l0 x3_1).f2)] 36 (0, 0)) (by (with_reducible repeat (first | refine blk_drewN ?_ _ | refine blk_drew ?_ | refine blk_alloc ?_ _)); exact BK154.out) hb); have n1_ := Aside0.mk (blk_below (g := gb155) (o := .cells #[.bool x156000_31, .int .i64 x156001_31, .int .i64 x156002_31, .int .i64 x156003_31, .int .i64 x156004_31, .bool x156005_31] 33 (0, 0)) (by (with_reducible repeat (first | refine blk_drewN ?_ _ | refine blk_drew ?_ | refine blk_alloc ?_ _)); exact BK155.out) hb); have n2_ := Aside0.mk (below_step (by repeat (first | (with_reducible first | exact HB.out | apply below_alloc | apply pw_below_drewN | apply below_drew1 | refine below_set ?_ GE154.out | refine below_set ?_ GE155.out) | exact HB.out)) hb); clear BK154; clear BK155; clear HB; have BK154 := n0_; have BK155 := n1_; have HB := n2_; clear n0_ n1_ n2_; (try clear hb); (try clear hb2); (try clear hk); (try clear hi)) | ((with_reducible refine gate_dst (N := 8) rfl ?_); refine box_event ?hg (N := 8) ?hd (cs := #[.bool false, .int .i64 0, .int .i64 0, .int .i64 0, .int .i64 0, .bool false]) (t := 33) ?hr ?_; (case hd => rfl); (case hg => rfl); (case hr => first | (go_simp; done) | (go_simp; rfl)); intro gb174 hg w46 hbox hb; have n0_ := Aside0.mk (blk_below (g := gb154) (o := .cells #[.bool ((rd_T36 l0 x3_1).f0.f0), .int .i64 ((rd_T36 l0 x3_1).f0.f1), .int .i64 ((rd_T36 l0 x3_1).f0.f2), .int .i64 ((rd_T36 l0 x3_1).f0.f3), .int .i64 ((rd_T36 l0 x3_1).f0.f4), .bool ((rd_T36 l0 x3_1).f0.f5), .int .i64 ((rd_T36 l0 x3_1).f1), .int .i64 ((rd_T36 l0 x3_1).f2)] 36 (0, 0)) (by (with_reducible repeat (first | refine blk_drewN ?_ _ | refine blk_drew ?_ | refine blk_alloc ?_ _)); exact BK154.out) hb); have n1_ := Aside0.mk (blk_below (g := gb155) (o := .cells #[.bool x156000_31, .int .i64 x156001_31, .int .i64 x156002_31, .int .i64 x156003_31, .int .i64 x156004_31, .bool x156005_31] 33 (0, 0)) (by (with_reducible repeat (first | refine blk_drewN ?_ _ | refine blk_drew ?_ | refine blk_alloc ?_ _)); exact BK155.out) hb); have n2_ := Aside0.mk (below_step (by repeat (first | (with_reducible first | exact HB.out | apply below_alloc | apply pw_below_drewN | apply below_drew1 | refine below_set ?_ GE154.out | refine below_set ?_ GE155.out) | exact HB.out)) hb); have n3_ := Aside0.mk (hbox); have n4_ := Aside0.mk ((by rw [hg]; exact (below_size (by repeat (first | (with_reducible first | exact HB.out | apply below_alloc | apply pw_below_drewN | apply below_drew1 | refine below_set ?_ GE154.out | refine below_set ?_ GE155.out) | exact HB.out))) : w.heap.size ≤ gb174)); have n5_ := Aside0.mk ((by rw [hg]; exact (below_size (by repeat (first | (with_reducible first | exact HB.out | apply below_alloc | apply pw_below_drewN | apply below_drew1 | refine below_set ?_ GE154.out | refine below_set ?_ GE155.out) | exact HB.out))) : w.heap.size ≤ gb174)); have n6_ := Aside0.mk ((by rw [hg]; exact Nat.ne_of_lt (blk_lt (g := gb154) (o := .cells #[.bool ((rd_T36 l0 x3_1).f0.f0), .int .i64 ((rd_T36 l0 x3_1).f0.f1), .int .i64 ((rd_T36 l0 x3_1).f0.f2), .int .i64 ((rd_T36 l0 x3_1).f0.f3), .int .i64 ((rd_T36 l0 x3_1).f0.f4), .bool ((rd_T36 l0 x3_1).f0.f5), .int .i64 ((rd_T36 l0 x3_1).f1), .int .i64 ((rd_T36 l0 x3_1).f2)] 36 (0, 0)) (by (with_reducible repeat (first | refine blk_drewN ?_ _ | refine blk_drew ?_ | refine blk_alloc ?_ _)); exact BK154.out)) : gb154 ≠ gb174)); have n7_ := Aside0.mk ((by rw [hg]; exact Nat.ne_of_gt (blk_lt (g := gb154) (o := .cells #[.bool ((rd_T36 l0 x3_1).f0.f0), .int .i64 ((rd_T36 l0 x3_1).f0.f1), .int .i64 ((rd_T36 l0 x3_1).f0.f2), .int .i64 ((rd_T36 l0 x3_1).f0.f3), .int .i64 ((rd_T36 l0 x3_1).f0.f4), .bool ((rd_T36 l0 x3_1).f0.f5), .int .i64 ((rd_T36 l0 x3_1).f1), .int .i64 ((rd_T36 l0 x3_1).f2)] 36 (0, 0)) (by (with_reducible repeat (first | refine blk_drewN ?_ _ | refine blk_drew ?_ | refine blk_alloc ?_ _)); exact BK154.out)) : gb174 ≠ gb154)); have n8_ := Aside0.mk ((by rw [hg]; exact Nat.ne_of_lt (blk_lt (g := gb155) (o := .cells #[.bool x156000_31, .int .i64 x156001_31, .int .i64 x156002_31, .int .i64 x156003_31, .int .i64 x156004_31, .bool x156005_31] 33 (0, 0)) (by (with_reducible repeat (first | refine blk_drewN ?_ _ | refine blk_drew ?_ | refine blk_alloc ?_ _)); exact BK155.out)) : gb155 ≠ gb174)); have n9_ := Aside0.mk ((by rw [hg]; exact Nat.ne_of_gt (blk_lt (g := gb155) (o := .cells #[.bool x156000_31, .int .i64 x156001_31, .int .i64 x156002_31, .int .i64 x156003_31, .int .i64 x156004_31, .bool x156005_31] 33 (0, 0)) (by (with_reducible repeat (first | refine blk_drewN ?_ _ | refine blk_drew ?_ | refine blk_alloc ?_ _)); exact BK155.out)) : gb174 ≠ gb155)); clear BK154; clear BK155; clear HB; have BK154 := n0_; have BK155 := n1_; have HB := n2_; have BK174 := n3_; have GW174 := n4_; have GE174 := n5_; have NB154_174 := n6_; have NB174_154 := n7_; have NB155_174 := n8_; have NB174_155 := n9_; clear n0_ n1_ n2_ n3_ n4_ n5_ n6_ n7_ n8_ n9_; clear hb hbox hg; have hnb47 := NB174_154.out; have hnc47 := NB154_174.out; have hnb48 := NB174_155.out; have hnc48 := NB155_174.out; have hcz49_0 : w46.cell? ⟨gb174, 0, none⟩ = some (.bool false) := (blk_cell BK174.out 0).trans rfl; have hcz49_1 : w46.cell? ⟨gb174, 1, none⟩ = some (.int .i64 0) := (blk_cell BK174.out 1).trans rfl; have hcz49_2 : w46.cell? ⟨gb174, 2, none⟩ = some (.int .i64 0) := (blk_cell BK174.out 2).trans rfl; have hcz49_3 : w46.cell? ⟨gb174, 3, none⟩ = some (.int .i64 0) := (blk_cell BK174.out 3).trans rfl; have hcz49_4 : w46.cell? ⟨gb174, 4, none⟩ = some (.int .i64 0) := (blk_cell BK174.out 4).trans rfl; have hcz49_5 : w46.cell? ⟨gb174, 5, none⟩ = some (.bool false) := (blk_cell BK174.out 5).trans rfl; have hfz49_0 := blk_frozen BK174.out 0; have hfz49_1 := blk_frozen BK174.out 1; have hfz49_2 := blk_frozen BK174.out 2; have hfz49_3 := blk_frozen BK174.out 3; have hfz49_4 := blk_frozen BK174.out 4; have hfz49_5 := blk_frozen BK174.out 5) | ((with_reducible refine gate_callee (f := 22) rfl ?_); refine goesL_ (some 68) rfl rfl Try.func22 (by kernel_rfl) rfl #[.int .i64 t173] rfl (by (try simp only [List.map_toArray, List.map_cons, List.map_nil]); first | done | rfl | (simp only [List.length_drop, List.length_take]; rfl)) ?_; (with_reducible refine (gimballaw21_num.calls t173 t175 _ A40.out).mono ?_); rintro e w' ⟨rfl, ⟨nd, rfl⟩⟩; refine ⟨_, rfl, ?_⟩; have hcz50_0 : w46.cell? ⟨gb155, 0, none⟩ = some (.bool x156000_31) := (blk_cell BK155.out 0).trans rfl; have hcz50_1 : w46.cell? ⟨gb155, 1, none⟩ = some (.int .i64 x156001_31) := (blk_cell BK155.out 1).trans rfl; have hcz50_2 : w46.cell? ⟨gb155, 2, none⟩ = some (.int .i64 x156002_31) := (blk_cell BK155.out 2).trans rfl; have hcz50_3 : w46.cell? ⟨gb155, 3, none⟩ = some (.int .i64 x156003_31) := (blk_cell BK155.out 3).trans rfl; have hcz50_4 : w46.cell? ⟨gb155, 4, none⟩ = some (.int .i64 x156004_31) := (blk_cell BK155.out 4).trans rfl; have hcz50_5 : w46.cell? ⟨gb155, 5, none⟩ = some (.bool x156005_31) := (blk_cell BK155.out 5).trans rfl; have hfz50_0 := blk_frozen BK155.out 0; have hfz50_1 := blk_frozen BK155.out 1; have hfz50_2 := blk_frozen BK155.out 2; have hfz50_3 := blk_frozen BK155.out 3; have hfz50_4 := blk_frozen BK155.out 4; have hfz50_5 := blk_frozen BK155.out 5))
                            go_ret
                            exact ⟨by first | rfl | (simp [errW_none, errW_some] <;> rfl) | (simp [*, errW_none, errW_some] <;> rfl), by repeat (first | (with_reducible first | exact HB.out | apply below_alloc | apply pw_below_drewN | apply below_drew1 | refine below_set ?_ GE154.out | refine below_set ?_ GE155.out | refine below_set ?_ GE174.out) | exact HB.out)⟩
                          · rw [if_neg c42] at H
                            have c42b0 : (!(t166 == x156000_31) || (!(t167 == x156001_31) || (!(t168 == x156002_31) || (!(t169 == x156003_31) || (!(t170 == x156004_31) || (!(t171 == x156005_31))))))) = false := by simpa using c42
                            clear c42
                            by_cases c51 : (t172 != x7_31) = true
                            · rw [if_pos c51] at H
                              have c51b0 : (t172 != x7_31) = true := c51
                              (try (have c51b1 : decide (t172 = x7_31) = false := by simpa using c51))
                              (try (have c51b2 : (t172 == x7_31) = false := by simpa using c51))
                              (try (have c51b3 : ¬ (t172 = x7_31) := by simpa using c51))
                              clear c51
                              obtain rfl := Option.some.inj H
                              have hnb52 := NB154_155.out
                              have hnc52 := NB155_154.out
                              have hcz53_0 : wc.cell? ⟨gb154, 0, none⟩ = some (.bool ((rd_T36 l0 x3_1).f0.f0)) := (blk_cell BK154.out 0).trans rfl
                              have hcz53_1 : wc.cell? ⟨gb154, 1, none⟩ = some (.int .i64 ((rd_T36 l0 x3_1).f0.f1)) := (blk_cell BK154.out 1).trans rfl
                              have hcz53_2 : wc.cell? ⟨gb154, 2, none⟩ = some (.int .i64 ((rd_T36 l0 x3_1).f0.f2)) := (blk_cell BK154.out 2).trans rfl
                              have hcz53_3 : wc.cell? ⟨gb154, 3, none⟩ = some (.int .i64 ((rd_T36 l0 x3_1).f0.f3)) := (blk_cell BK154.out 3).trans rfl
                              have hcz53_4 : wc.cell? ⟨gb154, 4, none⟩ = some (.int .i64 ((rd_T36 l0 x3_1).f0.f4)) := (blk_cell BK154.out 4).trans rfl
                              have hcz53_5 : wc.cell? ⟨gb154, 5, none⟩ = some (.bool ((rd_T36 l0 x3_1).f0.f5)) := (blk_cell BK154.out 5).trans rfl
                              have hcz53_6 : wc.cell? ⟨gb154, 6, none⟩ = some (.int .i64 ((rd_T36 l0 x3_1).f1)) := (blk_cell BK154.out 6).trans rfl
                              have hcz53_7 : wc.cell? ⟨gb154, 7, none⟩ = some (.int .i64 ((rd_T36 l0 x3_1).f2)) := (blk_cell BK154.out 7).trans rfl
                              have hfz53_0 := blk_frozen BK154.out 0
                              have hfz53_1 := blk_frozen BK154.out 1
                              have hfz53_2 := blk_frozen BK154.out 2
                              have hfz53_3 := blk_frozen BK154.out 3
                              have hfz53_4 := blk_frozen BK154.out 4
                              have hfz53_5 := blk_frozen BK154.out 5
                              have hfz53_6 := blk_frozen BK154.out 6
                              have hfz53_7 := blk_frozen BK154.out 7
                              go_wp2_with (first | ((with_reducible refine gate_callee (f := 21) rfl ?_); refine goesL_ (some 63) rfl rfl Try.func21 (by kernel_rfl) rfl #[.agg #[.bool ((rd_T36 l0 x3_1).f0.f0), .int .i64 ((rd_T36 l0 x3_1).f0.f1), .int .i64 ((rd_T36 l0 x3_1).f0.f2), .int .i64 ((rd_T36 l0 x3_1).f0.f3), .int .i64 ((rd_T36 l0 x3_1).f0.f4), .bool ((rd_T36 l0 x3_1).f0.f5)], .int .i64 ((rd_T36 l0 x3_1).f1), .int .i64 ((rd_T36 l0 x3_1).f2)] rfl (by (try simp only [List.map_toArray, List.map_cons, List.map_nil]); first | done | rfl | (simp only [List.length_drop, List.length_take]; rfl)) ?_; (with_reducible refine (motion_Take.calls kj31 ((rd_T36 l0 x3_1).f0.f0) ((rd_T36 l0 x3_1).f0.f1) ((rd_T36 l0 x3_1).f0.f2) ((rd_T36 l0 x3_1).f0.f3) ((rd_T36 l0 x3_1).f0.f4) ((rd_T36 l0 x3_1).f0.f5) ((rd_T36 l0 x3_1).f1) ((rd_T36 l0 x3_1).f2) t166 t167 t168 t169 t170 t171 t172 t173 _ A39.out).mono ?_); rintro e w54 ⟨rfl, hb⟩; refine ⟨_, rfl, ?_⟩; have n0_ := Aside0.mk (blk_below (g := gb154) (o := .cells #[.bool ((rd_T36 l0 x3_1).f0.f0), .int .i64 ((rd_T36 l0 x3_1).f0.f1), .int .i64 ((rd_T36 l0 x3_1).f0.f2), .int .i64 ((rd_T36 l0 x3_1).f0.f3), .int .i64 ((rd_T36 l0 x3_1).f0.f4), .bool ((rd_T36 l0 x3_1).f0.f5), .int .i64 ((rd_T36 l0 x3_1).f1), .int .i64 ((rd_T36 l0 x3_1).f2)] 36 (0, 0)) (by (with_reducible repeat (first | refine blk_drewN ?_ _ | refine blk_drew ?_ | refine blk_alloc ?_ _)); exact BK154.out) hb); have n1_ := Aside0.mk (blk_below (g := gb155) (o := .cells #[.bool x156000_31, .int .i64 x156001_31, .int .i64 x156002_31, .int .i64 x156003_31, .int .i64 x156004_31, .bool x156005_31] 33 (0, 0)) (by (with_reducible repeat (first | refine blk_drewN ?_ _ | refine blk_drew ?_ | refine blk_alloc ?_ _)); exact BK155.out) hb); have n2_ := Aside0.mk (below_step (by repeat (first | (with_reducible first | exact HB.out | apply below_alloc | apply pw_below_drewN | apply below_drew1 | refine below_set ?_ GE154.out | refine below_set ?_ GE155.out) | exact HB.out)) hb); clear BK154; clear BK155; clear HB; have BK154 := n0_; have BK155 := n1_; have HB := n2_; clear n0_ n1_ n2_; (try clear hb); (try clear hb2); (try clear hk); (try clear hi)) | ((with_reducible refine gate_dst (N := 8) rfl ?_); refine box_event ?hg (N := 8) ?hd (cs := #[.bool false, .int .i64 0, .int .i64 0, .int .i64 0, .int .i64 0, .bool false]) (t := 33) ?hr ?_; (case hd => rfl); (case hg => rfl); (case hr => first | (go_simp; done) | (go_simp; rfl)); intro gb174 hg w55 hbox hb; have n0_ := Aside0.mk (blk_below (g := gb154) (o := .cells #[.bool ((rd_T36 l0 x3_1).f0.f0), .int .i64 ((rd_T36 l0 x3_1).f0.f1), .int .i64 ((rd_T36 l0 x3_1).f0.f2), .int .i64 ((rd_T36 l0 x3_1).f0.f3), .int .i64 ((rd_T36 l0 x3_1).f0.f4), .bool ((rd_T36 l0 x3_1).f0.f5), .int .i64 ((rd_T36 l0 x3_1).f1), .int .i64 ((rd_T36 l0 x3_1).f2)] 36 (0, 0)) (by (with_reducible repeat (first | refine blk_drewN ?_ _ | refine blk_drew ?_ | refine blk_alloc ?_ _)); exact BK154.out) hb); have n1_ := Aside0.mk (blk_below (g := gb155) (o := .cells #[.bool x156000_31, .int .i64 x156001_31, .int .i64 x156002_31, .int .i64 x156003_31, .int .i64 x156004_31, .bool x156005_31] 33 (0, 0)) (by (with_reducible repeat (first | refine blk_drewN ?_ _ | refine blk_drew ?_ | refine blk_alloc ?_ _)); exact BK155.out) hb); have n2_ := Aside0.mk (below_step (by repeat (first | (with_reducible first | exact HB.out | apply below_alloc | apply pw_below_drewN | apply below_drew1 | refine below_set ?_ GE154.out | refine below_set ?_ GE155.out) | exact HB.out)) hb); have n3_ := Aside0.mk (hbox); have n4_ := Aside0.mk ((by rw [hg]; exact (below_size (by repeat (first | (with_reducible first | exact HB.out | apply below_alloc | apply pw_below_drewN | apply below_drew1 | refine below_set ?_ GE154.out | refine below_set ?_ GE155.out) | exact HB.out))) : w.heap.size ≤ gb174)); have n5_ := Aside0.mk ((by rw [hg]; exact (below_size (by repeat (first | (with_reducible first | exact HB.out | apply below_alloc | apply pw_below_drewN | apply below_drew1 | refine below_set ?_ GE154.out | refine below_set ?_ GE155.out) | exact HB.out))) : w.heap.size ≤ gb174)); have n6_ := Aside0.mk ((by rw [hg]; exact Nat.ne_of_lt (blk_lt (g := gb154) (o := .cells #[.bool ((rd_T36 l0 x3_1).f0.f0), .int .i64 ((rd_T36 l0 x3_1).f0.f1), .int .i64 ((rd_T36 l0 x3_1).f0.f2), .int .i64 ((rd_T36 l0 x3_1).f0.f3), .int .i64 ((rd_T36 l0 x3_1).f0.f4), .bool ((rd_T36 l0 x3_1).f0.f5), .int .i64 ((rd_T36 l0 x3_1).f1), .int .i64 ((rd_T36 l0 x3_1).f2)] 36 (0, 0)) (by (with_reducible repeat (first | refine blk_drewN ?_ _ | refine blk_drew ?_ | refine blk_alloc ?_ _)); exact BK154.out)) : gb154 ≠ gb174)); have n7_ := Aside0.mk ((by rw [hg]; exact Nat.ne_of_gt (blk_lt (g := gb154) (o := .cells #[.bool ((rd_T36 l0 x3_1).f0.f0), .int .i64 ((rd_T36 l0 x3_1).f0.f1), .int .i64 ((rd_T36 l0 x3_1).f0.f2), .int .i64 ((rd_T36 l0 x3_1).f0.f3), .int .i64 ((rd_T36 l0 x3_1).f0.f4), .bool ((rd_T36 l0 x3_1).f0.f5), .int .i64 ((rd_T36 l0 x3_1).f1), .int .i64 ((rd_T36 l0 x3_1).f2)] 36 (0, 0)) (by (with_reducible repeat (first | refine blk_drewN ?_ _ | refine blk_drew ?_ | refine blk_alloc ?_ _)); exact BK154.out)) : gb174 ≠ gb154)); have n8_ := Aside0.mk ((by rw [hg]; exact Nat.ne_of_lt (blk_lt (g := gb155) (o := .cells #[.bool x156000_31, .int .i64 x156001_31, .int .i64 x156002_31, .int .i64 x156003_31, .int .i64 x156004_31, .bool x156005_31] 33 (0, 0)) (by (with_reducible repeat (first | refine blk_drewN ?_ _ | refine blk_drew ?_ | refine blk_alloc ?_ _)); exact BK155.out)) : gb155 ≠ gb174)); have n9_ := Aside0.mk ((by rw [hg]; exact Nat.ne_of_gt (blk_lt (g := gb155) (o := .cells #[.bool x156000_31, .int .i64 x156001_31, .int .i64 x156002_31, .int .i64 x156003_31, .int .i64 x156004_31, .bool x156005_31] 33 (0, 0)) (by (with_reducible repeat (first | refine blk_drewN ?_ _ | refine blk_drew ?_ | refine blk_alloc ?_ _)); exact BK155.out)) : gb174 ≠ gb155)); clear BK154; clear BK155; clear HB; have BK154 := n0_; have BK155 := n1_; have HB := n2_; have BK174 := n3_; have GW174 := n4_; have GE174 := n5_; have NB154_174 := n6_; have NB174_154 := n7_; have NB155_174 := n8_; have NB174_155 := n9_; clear n0_ n1_ n2_ n3_ n4_ n5_ n6_ n7_ n8_ n9_; clear hb hbox hg; have hnb56 := NB174_154.out; have hnc56 := NB154_174.out; have hnb57 := NB174_155.out; have hnc57 := NB155_174.out; have hcz58_0 : w55.cell? ⟨gb174, 0, none⟩ = some (.bool false) := (blk_cell BK174.out 0).trans rfl; have hcz58_1 : w55.cell? ⟨gb174, 1, none⟩ = some (.int .i64 0) := (blk_cell BK174.out 1).trans rfl; have hcz58_2 : w55.cell? ⟨gb174, 2, none⟩ = some (.int .i64 0) := (blk_cell BK174.out 2).trans rfl; have hcz58_3 : w55.cell? ⟨gb174, 3, none⟩ = some (.int .i64 0) := (blk_cell BK174.out 3).trans rfl; have hcz58_4 : w55.cell? ⟨gb174, 4, none⟩ = some (.int .i64 0) := (blk_cell BK174.out 4).trans rfl; have hcz58_5 : w55.cell? ⟨gb174, 5, none⟩ = some (.bool false) := (blk_cell BK174.out 5).trans rfl; have hfz58_0 := blk_frozen BK174.out 0; have hfz58_1 := blk_frozen BK174.out 1; have hfz58_2 := blk_frozen BK174.out 2; have hfz58_3 := blk_frozen BK174.out 3; have hfz58_4 := blk_frozen BK174.out 4; have hfz58_5 := blk_frozen BK174.out 5) | ((with_reducible refine gate_callee (f := 22) rfl ?_); refine goesL_ (some 68) rfl rfl Try.func22 (by kernel_rfl) rfl #[.int .i64 t173] rfl (by (try simp only [List.map_toArray, List.map_cons, List.map_nil]); first | done | rfl | (simp only [List.length_drop, List.length_take]; rfl)) ?_; (with_reducible refine (gimballaw21_num.calls t173 t175 _ A40.out).mono ?_); rintro e w' ⟨rfl, ⟨nd, rfl⟩⟩; refine ⟨_, rfl, ?_⟩; have hcz59_0 : w55.cell? ⟨gb155, 0, none⟩ = some (.bool x156000_31) := (blk_cell BK155.out 0).trans rfl; have hcz59_1 : w55.cell? ⟨gb155, 1, none⟩ = some (.int .i64 x156001_31) := (blk_cell BK155.out 1).trans rfl; have hcz59_2 : w55.cell? ⟨gb155, 2, none⟩ = some (.int .i64 x156002_31) := (blk_cell BK155.out 2).trans rfl; have hcz59_3 : w55.cell? ⟨gb155, 3, none⟩ = some (.int .i64 x156003_31) := (blk_cell BK155.out 3).trans rfl; have hcz59_4 : w55.cell? ⟨gb155, 4, none⟩ = some (.int .i64 x156004_31) := (blk_cell BK155.out 4).trans rfl; have hcz59_5 : w55.cell? ⟨gb155, 5, none⟩ = some (.bool x156005_31) := (blk_cell BK155.out 5).trans rfl; have hfz59_0 := blk_frozen BK155.out 0; have hfz59_1 := blk_frozen BK155.out 1; have hfz59_2 := blk_frozen BK155.out 2; have hfz59_3 := blk_frozen BK155.out 3; have hfz59_4 := blk_frozen BK155.out 4; have hfz59_5 := blk_frozen BK155.out 5))
                              go_ret
                              exact ⟨by first | rfl | (simp [errW_none, errW_some] <;> rfl) | (simp [*, errW_none, errW_some] <;> rfl), by repeat (first | (with_reducible first | exact HB.out | apply below_alloc | apply pw_below_drewN | apply below_drew1 | refine below_set ?_ GE154.out | refine below_set ?_ GE155.out | refine below_set ?_ GE174.out) | exact HB.out)⟩
                            · rw [if_neg c51] at H
                              have c51b0 : (t172 != x7_31) = false := by simpa using c51
                              (try (have c51b1 : decide (t172 = x7_31) = true := by simpa using c51))
                              (try (have c51b2 : (t172 == x7_31) = true := by simpa using c51))
                              clear c51
                              have H' := Aside0.mk H
                              clear H
                              have hnb60 := NB154_155.out
                              have hnc60 := NB155_154.out
                              have hcz61_0 : wc.cell? ⟨gb154, 0, none⟩ = some (.bool ((rd_T36 l0 x3_1).f0.f0)) := (blk_cell BK154.out 0).trans rfl
                              have hcz61_1 : wc.cell? ⟨gb154, 1, none⟩ = some (.int .i64 ((rd_T36 l0 x3_1).f0.f1)) := (blk_cell BK154.out 1).trans rfl
                              have hcz61_2 : wc.cell? ⟨gb154, 2, none⟩ = some (.int .i64 ((rd_T36 l0 x3_1).f0.f2)) := (blk_cell BK154.out 2).trans rfl
                              have hcz61_3 : wc.cell? ⟨gb154, 3, none⟩ = some (.int .i64 ((rd_T36 l0 x3_1).f0.f3)) := (blk_cell BK154.out 3).trans rfl
                              have hcz61_4 : wc.cell? ⟨gb154, 4, none⟩ = some (.int .i64 ((rd_T36 l0 x3_1).f0.f4)) := (blk_cell BK154.out 4).trans rfl
                              have hcz61_5 : wc.cell? ⟨gb154, 5, none⟩ = some (.bool ((rd_T36 l0 x3_1).f0.f5)) := (blk_cell BK154.out 5).trans rfl
                              have hcz61_6 : wc.cell? ⟨gb154, 6, none⟩ = some (.int .i64 ((rd_T36 l0 x3_1).f1)) := (blk_cell BK154.out 6).trans rfl
                              have hcz61_7 : wc.cell? ⟨gb154, 7, none⟩ = some (.int .i64 ((rd_T36 l0 x3_1).f2)) := (blk_cell BK154.out 7).trans rfl
                              have hfz61_0 := blk_frozen BK154.out 0
                              have hfz61_1 := blk_frozen BK154.out 1
                              have hfz61_2 := blk_frozen BK154.out 2
                              have hfz61_3 := blk_frozen BK154.out 3
                              have hfz61_4 := blk_frozen BK154.out 4
                              have hfz61_5 := blk_frozen BK154.out 5
                              have hfz61_6 := blk_frozen BK154.out 6
                              have hfz61_7 := blk_frozen BK154.out 7
                              go_wp2_with (first | ((with_reducible refine gate_callee (f := 21) rfl ?_); refine goesL_ (some 63) rfl rfl Try.func21 (by kernel_rfl) rfl #[.agg #[.bool ((rd_T36 l0 x3_1).f0.f0), .int .i64 ((rd_T36 l0 x3_1).f0.f1), .int .i64 ((rd_T36 l0 x3_1).f0.f2), .int .i64 ((rd_T36 l0 x3_1).f0.f3), .int .i64 ((rd_T36 l0 x3_1).f0.f4), .bool ((rd_T36 l0 x3_1).f0.f5)], .int .i64 ((rd_T36 l0 x3_1).f1), .int .i64 ((rd_T36 l0 x3_1).f2)] rfl (by (try simp only [List.map_toArray, List.map_cons, List.map_nil]); first | done | rfl | (simp only [List.length_drop, List.length_take]; rfl)) ?_; (with_reducible refine (motion_Take.calls kj31 ((rd_T36 l0 x3_1).f0.f0) ((rd_T36 l0 x3_1).f0.f1) ((rd_T36 l0 x3_1).f0.f2) ((rd_T36 l0 x3_1).f0.f3) ((rd_T36 l0 x3_1).f0.f4) ((rd_T36 l0 x3_1).f0.f5) ((rd_T36 l0 x3_1).f1) ((rd_T36 l0 x3_1).f2) t166 t167 t168 t169 t170 t171 t172 t173 _ A39.out).mono ?_); rintro e w62 ⟨rfl, hb⟩; refine ⟨_, rfl, ?_⟩; have n0_ := Aside0.mk (blk_below (g := gb154) (o := .cells #[.bool ((rd_T36 l0 x3_1).f0.f0), .int .i64 ((rd_T36 l0 x3_1).f0.f1), .int .i64 ((rd_T36 l0 x3_1).f0.f2), .int .i64 ((rd_T36 l0 x3_1).f0.f3), .int .i64 ((rd_T36 l0 x3_1).f0.f4), .bool ((rd_T36 l0 x3_1).f0.f5), .int .i64 ((rd_T36 l0 x3_1).f1), .int .i64 ((rd_T36 l0 x3_1).f2)] 36 (0, 0)) (by (with_reducible repeat (first | refine blk_drewN ?_ _ | refine blk_drew ?_ | refine blk_alloc ?_ _)); exact BK154.out) hb); have n1_ := Aside0.mk (blk_below (g := gb155) (o := .cells #[.bool x156000_31, .int .i64 x156001_31, .int .i64 x156002_31, .int .i64 x156003_31, .int .i64 x156004_31, .bool x156005_31] 33 (0, 0)) (by (with_reducible repeat (first | refine blk_drewN ?_ _ | refine blk_drew ?_ | refine blk_alloc ?_ _)); exact BK155.out) hb); have n2_ := Aside0.mk (below_step (by repeat (first | (with_reducible first | exact HB.out | apply below_alloc | apply pw_below_drewN | apply below_drew1 | refine below_set ?_ GE154.out | refine below_set ?_ GE155.out) | exact HB.out)) hb); clear BK154; clear BK155; clear HB; have BK154 := n0_; have BK155 := n1_; have HB := n2_; clear n0_ n1_ n2_; (try clear hb); (try clear hb2); (try clear hk); (try clear hi)) | ((with_reducible refine gate_dst (N := 8) rfl ?_); refine box_event ?hg (N := 8) ?hd (cs := #[.bool false, .int .i64 0, .int .i64 0, .int .i64 0, .int .i64 0, .bool false]) (t := 33) ?hr ?_; (case hd => rfl); (case hg => rfl); (case hr => first | (go_simp; done) | (go_simp; rfl)); intro gb174 hg w63 hbox hb; have n0_ := Aside0.mk (blk_below (g := gb154) (o := .cells #[.bool ((rd_T36 l0 x3_1).f0.f0), .int .i64 ((rd_T36 l0 x3_1).f0.f1), .int .i64 ((rd_T36 l0 x3_1).f0.f2), .int .i64 ((rd_T36 l0 x3_1).f0.f3), .int .i64 ((rd_T36 l0 x3_1).f0.f4), .bool ((rd_T36 l0 x3_1).f0.f5), .int .i64 ((rd_T36 l0 x3_1).f1), .int .i64 ((rd_T36 l0 x3_1).f2)] 36 (0, 0)) (by (with_reducible repeat (first | refine blk_drewN ?_ _ | refine blk_drew ?_ | refine blk_alloc ?_ _)); exact BK154.out) hb); have n1_ := Aside0.mk (blk_below (g := gb155) (o := .cells #[.bool x156000_31, .int .i64 x156001_31, .int .i64 x156002_31, .int .i64 x156003_31, .int .i64 x156004_31, .bool x156005_31] 33 (0, 0)) (by (with_reducible repeat (first | refine blk_drewN ?_ _ | refine blk_drew ?_ | refine blk_alloc ?_ _)); exact BK155.out) hb); have n2_ := Aside0.mk (below_step (by repeat (first | (with_reducible first | exact HB.out | apply below_alloc | apply pw_below_drewN | apply below_drew1 | refine below_set ?_ GE154.out | refine below_set ?_ GE155.out) | exact HB.out)) hb); have n3_ := Aside0.mk (hbox); have n4_ := Aside0.mk ((by rw [hg]; exact (below_size (by repeat (first | (with_reducible first | exact HB.out | apply below_alloc | apply pw_below_drewN | apply below_drew1 | refine below_set ?_ GE154.out | refine below_set ?_ GE155.out) | exact HB.out))) : w.heap.size ≤ gb174)); have n5_ := Aside0.mk ((by rw [hg]; exact (below_size (by repeat (first | (with_reducible first | exact HB.out | apply below_alloc | apply pw_below_drewN | apply below_drew1 | refine below_set ?_ GE154.out | refine below_set ?_ GE155.out) | exact HB.out))) : w.heap.size ≤ gb174)); have n6_ := Aside0.mk ((by rw [hg]; exact Nat.ne_of_lt (blk_lt (g := gb154) (o := .cells #[.bool ((rd_T36 l0 x3_1).f0.f0), .int .i64 ((rd_T36 l0 x3_1).f0.f1), .int .i64 ((rd_T36 l0 x3_1).f0.f2), .int .i64 ((rd_T36 l0 x3_1).f0.f3), .int .i64 ((rd_T36 l0 x3_1).f0.f4), .bool ((rd_T36 l0 x3_1).f0.f5), .int .i64 ((rd_T36 l0 x3_1).f1), .int .i64 ((rd_T36 l0 x3_1).f2)] 36 (0, 0)) (by (with_reducible repeat (first | refine blk_drewN ?_ _ | refine blk_drew ?_ | refine blk_alloc ?_ _)); exact BK154.out)) : gb154 ≠ gb174)); have n7_ := Aside0.mk ((by rw [hg]; exact Nat.ne_of_gt (blk_lt (g := gb154) (o := .cells #[.bool ((rd_T36 l0 x3_1).f0.f0), .int .i64 ((rd_T36 l0 x3_1).f0.f1), .int .i64 ((rd_T36 l0 x3_1).f0.f2), .int .i64 ((rd_T36 l0 x3_1).f0.f3), .int .i64 ((rd_T36 l0 x3_1).f0.f4), .bool ((rd_T36 l0 x3_1).f0.f5), .int .i64 ((rd_T36 l0 x3_1).f1), .int .i64 ((rd_T36 l0 x3_1).f2)] 36 (0, 0)) (by (with_reducible repeat (first | refine blk_drewN ?_ _ | refine blk_drew ?_ | refine blk_alloc ?_ _)); exact BK154.out)) : gb174 ≠ gb154)); have n8_ := Aside0.mk ((by rw [hg]; exact Nat.ne_of_lt (blk_lt (g := gb155) (o := .cells #[.bool x156000_31, .int .i64 x156001_31, .int .i64 x156002_31, .int .i64 x156003_31, .int .i64 x156004_31, .bool x156005_31] 33 (0, 0)) (by (with_reducible repeat (first | refine blk_drewN ?_ _ | refine blk_drew ?_ | refine blk_alloc ?_ _)); exact BK155.out)) : gb155 ≠ gb174)); have n9_ := Aside0.mk ((by rw [hg]; exact Nat.ne_of_gt (blk_lt (g := gb155) (o := .cells #[.bool x156000_31, .int .i64 x156001_31, .int .i64 x156002_31, .int .i64 x156003_31, .int .i64 x156004_31, .bool x156005_31] 33 (0, 0)) (by (with_reducible repeat (first | refine blk_drewN ?_ _ | refine blk_drew ?_ | refine blk_alloc ?_ _)); exact BK155.out)) : gb174 ≠ gb155)); clear BK154; clear BK155; clear HB; have BK154 := n0_; have BK155 := n1_; have HB := n2_; have BK174 := n3_; have GW174 := n4_; have GE174 := n5_; have NB154_174 := n6_; have NB174_154 := n7_; have NB155_174 := n8_; have NB174_155 := n9_; clear n0_ n1_ n2_ n3_ n4_ n5_ n6_ n7_ n8_ n9_; clear hb hbox hg; have hnb64 := NB174_154.out; have hnc64 := NB154_174.out; have hnb65 := NB174_155.out; have hnc65 := NB155_174.out; have hcz66_0 : w63.cell? ⟨gb174, 0, none⟩ = some (.bool false) := (blk_cell BK174.out 0).trans rfl; have hcz66_1 : w63.cell? ⟨gb174, 1, none⟩ = some (.int .i64 0) := (blk_cell BK174.out 1).trans rfl; have hcz66_2 : w63.cell? ⟨gb174, 2, none⟩ = some (.int .i64 0) := (blk_cell BK174.out 2).trans rfl; have hcz66_3 : w63.cell? ⟨gb174, 3, none⟩ = some (.int .i64 0) := (blk_cell BK174.out 3).trans rfl; have hcz66_4 : w63.cell? ⟨gb174, 4, none⟩ = some (.int .i64 0) := (blk_cell BK174.out 4).trans rfl; have hcz66_5 : w63.cell? ⟨gb174, 5, none⟩ = some (.bool false) := (blk_cell BK174.out 5).trans rfl; have hfz66_0 := blk_frozen BK174.out 0; have hfz66_1 := blk_frozen BK174.out 1; have hfz66_2 := blk_frozen BK174.out 2; have hfz66_3 := blk_frozen BK174.out 3; have hfz66_4 := blk_frozen BK174.out 4; have hfz66_5 := blk_frozen BK174.out 5) | ((with_reducible refine gate_callee (f := 22) rfl ?_); refine goesL_ (some 68) rfl rfl Try.func22 (by kernel_rfl) rfl #[.int .i64 t173] rfl (by (try simp only [List.map_toArray, List.map_cons, List.map_nil]); first | done | rfl | (simp only [List.length_drop, List.length_take]; rfl)) ?_; (with_reducible refine (gimballaw21_num.calls t173 t175 _ A40.out).mono ?_); rintro e w' ⟨rfl, ⟨nd, rfl⟩⟩; refine ⟨_, rfl, ?_⟩; have hcz67_0 : w63.cell? ⟨gb155, 0, none⟩ = some (.bool x156000_31) := (blk_cell BK155.out 0).trans rfl; have hcz67_1 : w63.cell? ⟨gb155, 1, none⟩ = some (.int .i64 x156001_31) := (blk_cell BK155.out 1).trans rfl; have hcz67_2 : w63.cell? ⟨gb155, 2, none⟩ = some (.int .i64 x156002_31) := (blk_cell BK155.out 2).trans rfl; have hcz67_3 : w63.cell? ⟨gb155, 3, none⟩ = some (.int .i64 x156003_31) := (blk_cell BK155.out 3).trans rfl; have hcz67_4 : w63.cell? ⟨gb155, 4, none⟩ = some (.int .i64 x156004_31) := (blk_cell BK155.out 4).trans rfl; have hcz67_5 : w63.cell? ⟨gb155, 5, none⟩ = some (.bool x156005_31) := (blk_cell BK155.out 5).trans rfl; have hfz67_0 := blk_frozen BK155.out 0; have hfz67_1 := blk_frozen BK155.out 1; have hfz67_2 := blk_frozen BK155.out 2; have hfz67_3 := blk_frozen BK155.out 3; have hfz67_4 := blk_frozen BK155.out 4; have hfz67_5 := blk_frozen BK155.out 5))
                              go_roundg kj31
                              case measure => have := HK1.out; have := HJ1.out; have := HJ6.out; have := HJ31.out; omega
                              case rel => exact ⟨(wrap64 (x3_1 + 1)), (by first | rfl | (simp; done) | (simp [*]; done)), H', ⟨by have := HK1.out; have := HJ1.out; have := HJ6.out; have := HJ31.out; omega⟩, ⟨by repeat (first | (with_reducible first | exact HB.out | apply below_alloc | apply pw_below_drewN | apply below_drew1 | refine below_set ?_ GE154.out | refine below_set ?_ GE155.out | refine below_set ?_ GE174.out) | exact HB.out)⟩⟩
                        · rw [if_neg c41] at H
                          have c41b0 : (t175 == x5_31) = false := beq_eq_false_iff_ne.mpr c41
                          have c41b1 : (t175 != x5_31) = true := bne_iff_ne.mpr c41
                          obtain rfl := Option.some.inj H
                          have hnb68 := NB154_155.out
                          have hnc68 := NB155_154.out
                          have hcz69_0 : wc.cell? ⟨gb154, 0, none⟩ = some (.bool ((rd_T36 l0 x3_1).f0.f0)) := (blk_cell BK154.out 0).trans rfl
                          have hcz69_1 : wc.cell? ⟨gb154, 1, none⟩ = some (.int .i64 ((rd_T36 l0 x3_1).f0.f1)) := (blk_cell BK154.out 1).trans rfl
                          have hcz69_2 : wc.cell? ⟨gb154, 2, none⟩ = some (.int .i64 ((rd_T36 l0 x3_1).f0.f2)) := (blk_cell BK154.out 2).trans rfl
                          have hcz69_3 : wc.cell? ⟨gb154, 3, none⟩ = some (.int .i64 ((rd_T36 l0 x3_1).f0.f3)) := (blk_cell BK154.out 3).trans rfl
                          have hcz69_4 : wc.cell? ⟨gb154, 4, none⟩ = some (.int .i64 ((rd_T36 l0 x3_1).f0.f4)) := (blk_cell BK154.out 4).trans rfl
                          have hcz69_5 : wc.cell? ⟨gb154, 5, none⟩ = some (.bool ((rd_T36 l0 x3_1).f0.f5)) := (blk_cell BK154.out 5).trans rfl
                          have hcz69_6 : wc.cell? ⟨gb154, 6, none⟩ = some (.int .i64 ((rd_T36 l0 x3_1).f1)) := (blk_cell BK154.out 6).trans rfl
                          have hcz69_7 : wc.cell? ⟨gb154, 7, none⟩ = some (.int .i64 ((rd_T36 l0 x3_1).f2)) := (blk_cell BK154.out 7).trans rfl
                          have hfz69_0 := blk_frozen BK154.out 0
                          have hfz69_1 := blk_frozen BK154.out 1
                          have hfz69_2 := blk_frozen BK154.out 2
                          have hfz69_3 := blk_frozen BK154.out 3
                          have hfz69_4 := blk_frozen BK154.out 4
                          have hfz69_5 := blk_frozen BK154.out 5
                          have hfz69_6 := blk_frozen BK154.out 6
                          have hfz69_7 := blk_frozen BK154.out 7
                          go_wp2_with (first | ((with_reducible refine gate_callee (f := 21) rfl ?_); refine goesL_ (some 63) rfl rfl Try.func21 (by kernel_rfl) rfl #[.agg #[.bool ((rd_T36 l0 x3_1).f0.f0), .int .i64 ((rd_T36 l0 x3_1).f0.f1), .int .i64 ((rd_T36 l0 x3_1).f0.f2), .int .i64 ((rd_T36 l0 x3_1).f0.f3), .int .i64 ((rd_T36 l0 x3_1).f0.f4), .bool ((rd_T36 l0 x3_1).f0.f5)], .int .i64 ((rd_T36 l0 x3_1).f1), .int .i64 ((rd_T36 l0 x3_1).f2)] rfl (by (try simp only [List.map_toArray, List.map_cons, List.map_nil]); first | done | rfl | (simp only [List.length_drop, List.length_take]; rfl)) ?_; (with_reducible refine (motion_Take.calls kj31 ((rd_T36 l0 x3_1).f0.f0) ((rd_T36 l0 x3_1).f0.f1) ((rd_T36 l0 x3_1).f0.f2) ((rd_T36 l0 x3_1).f0.f3) ((rd_T36 l0 x3_1).f0.f4) ((rd_T36 l0 x3_1).f0.f5) ((rd_T36 l0 x3_1).f1) ((rd_T36 l0 x3_1).f2) t166 t167 t168 t169 t170 t171 t172 t173 _ A39.out).mono ?_); rintro e w70 ⟨rfl, hb⟩; refine ⟨_, rfl, ?_⟩; have n0_ := Aside0.mk (blk_below (g := gb154) (o := .cells #[.bool ((rd_T36 l0 x3_1).f0.f0), .int .i64 ((rd_T36 l0 x3_1).f0.f1), .int .i64 ((rd_T36 l0 x3_1).f0.f2), .int .i64 ((rd_T36 l0 x3_1).f0.f3), .int .i64 ((rd_T36 l0 x3_1).f0.f4), .bool ((rd_T36 l0 x3_1).f0.f5), .int .i64 ((rd_T36 l0 x3_1).f1), .int .i64 ((rd_T36 l0 x3_1).f2)] 36 (0, 0)) (by (with_reducible repeat (first | refine blk_drewN ?_ _ | refine blk_drew ?_ | refine blk_alloc ?_ _)); exact BK154.out) hb); have n1_ := Aside0.mk (blk_below (g := gb155) (o := .cells #[.bool x156000_31, .int .i64 x156001_31, .int .i64 x156002_31, .int .i64 x156003_31, .int .i64 x156004_31, .bool x156005_31] 33 (0, 0)) (by (with_reducible repeat (first | refine blk_drewN ?_ _ | refine blk_drew ?_ | refine blk_alloc ?_ _)); exact BK155.out) hb); have n2_ := Aside0.mk (below_step (by repeat (first | (with_reducible first | exact HB.out | apply below_alloc | apply pw_below_drewN | apply below_drew1 | refine below_set ?_ GE154.out | refine below_set ?_ GE155.out) | exact HB.out)) hb); clear BK154; clear BK155; clear HB; have BK154 := n0_; have BK155 := n1_; have HB := n2_; clear n0_ n1_ n2_; (try clear hb); (try clear hb2); (try clear hk); (try clear hi)) | ((with_reducible refine gate_dst (N := 8) rfl ?_); refine box_event ?hg (N := 8) ?hd (cs := #[.bool false, .int .i64 0, .int .i64 0, .int .i64 0, .int .i64 0, .bool false]) (t := 33) ?hr ?_; (case hd => rfl); (case hg => rfl); (case hr => first | (go_simp; done) | (go_simp; rfl)); intro gb174 hg w71 hbox hb; have n0_ := Aside0.mk (blk_below (g := gb154) (o := .cells #[.bool ((rd_T36 l0 x3_1).f0.f0), .int .i64 ((rd_T36 l0 x3_1).f0.f1), .int .i64 ((rd_T36 l0 x3_1).f0.f2), .int .i64 ((rd_T36 l0 x3_1).f0.f3), .int .i64 ((rd_T36 l0 x3_1).f0.f4), .bool ((rd_T36 l0 x3_1).f0.f5), .int .i64 ((rd_T36 l0 x3_1).f1), .int .i64 ((rd_T36 l0 x3_1).f2)] 36 (0, 0)) (by (with_reducible repeat (first | refine blk_drewN ?_ _ | refine blk_drew ?_ | refine blk_alloc ?_ _)); exact BK154.out) hb); have n1_ := Aside0.mk (blk_below (g := gb155) (o := .cells #[.bool x156000_31, .int .i64 x156001_31, .int .i64 x156002_31, .int .i64 x156003_31, .int .i64 x156004_31, .bool x156005_31] 33 (0, 0)) (by (with_reducible repeat (first | refine blk_drewN ?_ _ | refine blk_drew ?_ | refine blk_alloc ?_ _)); exact BK155.out) hb); have n2_ := Aside0.mk (below_step (by repeat (first | (with_reducible first | exact HB.out | apply below_alloc | apply pw_below_drewN | apply below_drew1 | refine below_set ?_ GE154.out | refine below_set ?_ GE155.out) | exact HB.out)) hb); have n3_ := Aside0.mk (hbox); have n4_ := Aside0.mk ((by rw [hg]; exact (below_size (by repeat (first | (with_reducible first | exact HB.out | apply below_alloc | apply pw_below_drewN | apply below_drew1 | refine below_set ?_ GE154.out | refine below_set ?_ GE155.out) | exact HB.out))) : w.heap.size ≤ gb174)); have n5_ := Aside0.mk ((by rw [hg]; exact (below_size (by repeat (first | (with_reducible first | exact HB.out | apply below_alloc | apply pw_below_drewN | apply below_drew1 | refine below_set ?_ GE154.out | refine below_set ?_ GE155.out) | exact HB.out))) : w.heap.size ≤ gb174)); have n6_ := Aside0.mk ((by rw [hg]; exact Nat.ne_of_lt (blk_lt (g := gb154) (o := .cells #[.bool ((rd_T36 l0 x3_1).f0.f0), .int .i64 ((rd_T36 l0 x3_1).f0.f1), .int .i64 ((rd_T36 l0 x3_1).f0.f2), .int .i64 ((rd_T36 l0 x3_1).f0.f3), .int .i64 ((rd_T36 l0 x3_1).f0.f4), .bool ((rd_T36 l0 x3_1).f0.f5), .int .i64 ((rd_T36 l0 x3_1).f1), .int .i64 ((rd_T36 l0 x3_1).f2)] 36 (0, 0)) (by (with_reducible repeat (first | refine blk_drewN ?_ _ | refine blk_drew ?_ | refine blk_alloc ?_ _)); exact BK154.out)) : gb154 ≠ gb174)); have n7_ := Aside0.mk ((by rw [hg]; exact Nat.ne_of_gt (blk_lt (g := gb154) (o := .cells #[.bool ((rd_T36 l0 x3_1).f0.f0), .int .i64 ((rd_T36 l0 x3_1).f0.f1), .int .i64 ((rd_T36 l0 x3_1).f0.f2), .int .i64 ((rd_T36 l0 x3_1).f0.f3), .int .i64 ((rd_T36 l0 x3_1).f0.f4), .bool ((rd_T36 l0 x3_1).f0.f5), .int .i64 ((rd_T36 l0 x3_1).f1), .int .i64 ((rd_T36 l0 x3_1).f2)] 36 (0, 0)) (by (with_reducible repeat (first | refine blk_drewN ?_ _ | refine blk_drew ?_ | refine blk_alloc ?_ _)); exact BK154.out)) : gb174 ≠ gb154)); have n8_ := Aside0.mk ((by rw [hg]; exact Nat.ne_of_lt (blk_lt (g := gb155) (o := .cells #[.bool x156000_31, .int .i64 x156001_31, .int .i64 x156002_31, .int .i64 x156003_31, .int .i64 x156004_31, .bool x156005_31] 33 (0, 0)) (by (with_reducible repeat (first | refine blk_drewN ?_ _ | refine blk_drew ?_ | refine blk_alloc ?_ _)); exact BK155.out)) : gb155 ≠ gb174)); have n9_ := Aside0.mk ((by rw [hg]; exact Nat.ne_of_gt (blk_lt (g := gb155) (o := .cells #[.bool x156000_31, .int .i64 x156001_31, .int .i64 x156002_31, .int .i64 x156003_31, .int .i64 x156004_31, .bool x156005_31] 33 (0, 0)) (by (with_reducible repeat (first | refine blk_drewN ?_ _ | refine blk_drew ?_ | refine blk_alloc ?_ _)); exact BK155.out)) : gb174 ≠ gb155)); clear BK154; clear BK155; clear HB; have BK154 := n0_; have BK155 := n1_; have HB := n2_; have BK174 := n3_; have GW174 := n4_; have GE174 := n5_; have NB154_174 := n6_; have NB174_154 := n7_; have NB155_174 := n8_; have NB174_155 := n9_; clear n0_ n1_ n2_ n3_ n4_ n5_ n6_ n7_ n8_ n9_; clear hb hbox hg; have hnb72 := NB174_154.out; have hnc72 := NB154_174.out; have hnb73 := NB174_155.out; have hnc73 := NB155_174.out; have hcz74_0 : w71.cell? ⟨gb174, 0, none⟩ = some (.bool false) := (blk_cell BK174.out 0).trans rfl; have hcz74_1 : w71.cell? ⟨gb174, 1, none⟩ = some (.int .i64 0) := (blk_cell BK174.out 1).trans rfl; have hcz74_2 : w71.cell? ⟨gb174, 2, none⟩ = some (.int .i64 0) := (blk_cell BK174.out 2).trans rfl; have hcz74_3 : w71.cell? ⟨gb174, 3, none⟩ = some (.int .i64 0) := (blk_cell BK174.out 3).trans rfl; have hcz74_4 : w71.cell? ⟨gb174, 4, none⟩ = some (.int .i64 0) := (blk_cell BK174.out 4).trans rfl; have hcz74_5 : w71.cell? ⟨gb174, 5, none⟩ = some (.bool false) := (blk_cell BK174.out 5).trans rfl; have hfz74_0 := blk_frozen BK174.out 0; have hfz74_1 := blk_frozen BK174.out 1; have hfz74_2 := blk_frozen BK174.out 2; have hfz74_3 := blk_frozen BK174.out 3; have hfz74_4 := blk_frozen BK174.out 4; have hfz74_5 := blk_frozen BK174.out 5) | ((with_reducible refine gate_callee (f := 22) rfl ?_); refine goesL_ (some 68) rfl rfl Try.func22 (by kernel_rfl) rfl #[.int .i64 t173] rfl (by (try simp only [List.map_toArray, List.map_cons, List.map_nil]); first | done | rfl | (simp only [List.length_drop, List.length_take]; rfl)) ?_; (with_reducible refine (gimballaw21_num.calls t173 t175 _ A40.out).mono ?_); rintro e w' ⟨rfl, ⟨nd, rfl⟩⟩; refine ⟨_, rfl, ?_⟩))
                          go_ret
                          exact ⟨by first | rfl | (simp [errW_none, errW_some] <;> rfl) | (simp [*, errW_none, errW_some] <;> rfl), by repeat (first | (with_reducible first | exact HB.out | apply below_alloc | apply pw_below_drewN | apply below_drew1 | refine below_set ?_ GE154.out | refine below_set ?_ GE155.out | refine below_set ?_ GE174.out) | exact HB.out)⟩
              · rw [if_neg c6] at H
                exact absurd H (by simp)
            · rw [if_neg c5] at H
              exact absurd H (by simp)
          · replace c4 := Bool.eq_false_iff.mpr c4
            subst c4
            have H1 : ((gimballaw21_wakes.f kj1).bind fun t152 => (some t152)) = some r := by rw [if_neg (show ¬ (false = true) by decide)] at H; exact H
            clear H
            have H := H1
            clear H1
            replace H := Option.bind_eq_some_iff.mp H
            obtain ⟨t152, A750, H⟩ := H
            replace H : (some t152) = some r := H
            have A75 := Aside0.mk A750
            clear A750
            obtain rfl := Option.some.inj H
            go_wp2_with (first | ((with_reducible refine gate_callee (f := 23) rfl ?_); refine goesL_ (some 81) rfl rfl Try.func23 (by kernel_rfl) rfl #[] rfl (by (try simp only [List.map_toArray, List.map_cons, List.map_nil]); first | done | rfl | (simp only [List.length_drop, List.length_take]; rfl)) ?_; (with_reducible refine (gimballaw21_wakes.calls kj1  t152 _ A75.out).mono ?_); rintro e w76 ⟨rfl, hb⟩; refine ⟨_, rfl, ?_⟩; have n0_ := Aside0.mk (below_step (by repeat (first | (with_reducible first | exact HB.out | apply below_alloc | apply pw_below_drewN | apply below_drew1) | exact HB.out)) hb); clear HB; have HB := n0_; clear n0_; (try clear hb); (try clear hb2); (try clear hk); (try clear hi)))
            go_ret
            exact ⟨by first | rfl | (simp [errW_none, errW_some] <;> rfl) | (simp [*, errW_none, errW_some] <;> rfl), by repeat (first | (with_reducible first | exact HB.out | apply below_alloc | apply pw_below_drewN | apply below_drew1) | exact HB.out)⟩

end Go.Proofs.Ytcgknibjbnijmaa.QMotion
