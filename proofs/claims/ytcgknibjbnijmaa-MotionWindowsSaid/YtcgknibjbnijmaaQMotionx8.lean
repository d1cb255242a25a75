-- Printed by wip/tools/myprint.py (this session's program over the kit's printer).
import Derived.Test.YtcgknibjbnijmaaQMotionx0
import Derived.Test.YtcgknibjbnijmaaQMotionx2
import Derived.Test.YtcgknibjbnijmaaQMotionx3
import Derived.Test.YtcgknibjbnijmaaQMotionx4
namespace Go.Proofs.Ytcgknibjbnijmaa.QMotion
open Go.RowKit Go.Proofs.YtcgknibjbnijmaaW.PrintWords Go.Proofs.YtcgknibjbnijmaaW.PrintLast Go.Proofs.YtcgknibjbnijmaaW.PrintMore
attribute [local go_sem] max2_int min2_int max_two min_two max_three min_three max_four min_four   -- for this text's walks alone
set_option linter.unusedVariables false
set_option linter.unusedSimpArgs false

/-! ### gimballaw21_MotionWindows: function 6 -/
mutual
def gimballaw21_MotionWindows.l0 : Nat → List (S36) → Int → List Bool → Bool → Bool → Int → Bool → Int → Int → Int → Int → Bool → Option (Bool)
  | 0, _, _, _, _, _, _, _, _, _, _, _, _ => none
  | k + 1, x0, x4, x5, x6, x7, x8, x177000, x177001, x177002, x177003, x177004, x177005 => if x8 < (x0.length : Int) then (gimballaw21_MotionWindows.j1 k x0 x4 x5 x6 x7 x8 (decide (x8 < 100)) x177000 x177001 x177002 x177003 x177004 x177005) else (gimballaw21_MotionWindows.j1 k x0 x4 x5 x6 x7 x8 false x177000 x177001 x177002 x177003 x177004 x177005)
def gimballaw21_MotionWindows.j1 : Nat → List (S36) → Int → List Bool → Bool → Bool → Int → Bool → Bool → Int → Int → Int → Int → Bool → Option (Bool)
  | 0, _, _, _, _, _, _, _, _, _, _, _, _, _ => none
  | k + 1, x0, x4, x5, x6, x7, x8, x26, x177000, x177001, x177002, x177003, x177004, x177005 => if x26 = true then (if 0 ≤ x8 then (if x8 < (x0.length : Int) then ((gimballaw0_Within.f ((rd_T36 x0 x8).f1) 3).bind fun t179 => (gimballaw21_MotionWindows.l1 k x0 x4 x5 x6 x7 x8 (decide (t179 > 0)) 0 x177000 x177001 x177002 x177003 x177004 x177005)) else (none)) else (none)) else ((gimballaw21_wakes.f k).bind fun t177 => (some t177))
def gimballaw21_MotionWindows.l1 : Nat → List (S36) → Int → List Bool → Bool → Bool → Int → Bool → Int → Bool → Int → Int → Int → Int → Bool → Option (Bool)
  | 0, _, _, _, _, _, _, _, _, _, _, _, _, _, _ => none
  | k + 1, x0, x4, x5, x6, x7, x8, x9, x10, x177000, x177001, x177002, x177003, x177004, x177005 => if x10 < 2 then (if x9 = true then (gimballaw21_MotionWindows.j3 k x0 x4 x5 x6 x7 x8 x9 x10 9806650 (x10 == 1) x177000 x177001 x177002 x177003 x177004 x177005) else (gimballaw21_MotionWindows.j3 k x0 x4 x5 x6 x7 x8 x9 x10 9806650 false x177000 x177001 x177002 x177003 x177004 x177005)) else (if x5.length < 140737488355328 then (gimballaw21_MotionWindows.l0 k x0 x4 (x5 ++ [x9]) x6 true (wrap64 (x8 + 1)) x177000 x177001 x177002 x177003 x177004 x177005) else (none))
def gimballaw21_MotionWindows.j3 : Nat → List (S36) → Int → List Bool → Bool → Bool → Int → Bool → Int → Int → Bool → Bool → Int → Int → Int → Int → Bool → Option (Bool)
  | 0, _, _, _, _, _, _, _, _, _, _, _, _, _, _, _, _ => none
  | k + 1, x0, x4, x5, x6, x7, x8, x9, x10, x11, x44, x177000, x177001, x177002, x177003, x177004, x177005 => if x44 = true then (gimballaw21_MotionWindows.j4 k x0 x4 x5 x6 x7 x8 x9 x10 19613300 x177000 x177001 x177002 x177003 x177004 x177005) else (gimballaw21_MotionWindows.j4 k x0 x4 x5 x6 x7 x8 x9 x10 x11 x177000 x177001 x177002 x177003 x177004 x177005)
def gimballaw21_MotionWindows.j4 : Nat → List (S36) → Int → List Bool → Bool → Bool → Int → Bool → Int → Int → Bool → Int → Int → Int → Int → Bool → Option (Bool)
  | 0, _, _, _, _, _, _, _, _, _, _, _, _, _, _, _ => none
  | k + 1, x0, x4, x5, x6, x7, x8, x9, x10, x11, x177000, x177001, x177002, x177003, x177004, x177005 => (motion_Take.f k x177000 x177001 x177002 x177003 x177004 x177005 x11 x4).bind fun bt183 => ((gimballaw21_num.f bt183.2.2.2.2.2.2.2).bind fun t192 => (if t192 = 0 then (if x10 = 0 then (gimballaw21_MotionWindows.j5 k x0 x4 x5 x6 x7 x8 x9 x10 bt183.2.2.2.2.2.2.1 false x7 bt183.1 bt183.2.1 bt183.2.2.1 bt183.2.2.2.1 bt183.2.2.2.2.1 bt183.2.2.2.2.2.1) else (gimballaw21_MotionWindows.j5 k x0 x4 x5 x6 x7 x8 x9 x10 bt183.2.2.2.2.2.2.1 false false bt183.1 bt183.2.1 bt183.2.2.1 bt183.2.2.2.1 bt183.2.2.2.2.1 bt183.2.2.2.2.2.1)) else (some false)))
def gimballaw21_MotionWindows.j5 : Nat → List (S36) → Int → List Bool → Bool → Bool → Int → Bool → Int → Bool → Bool → Bool → Bool → Int → Int → Int → Int → Bool → Option (Bool)
  | 0, _, _, _, _, _, _, _, _, _, _, _, _, _, _, _, _, _ => none
  | k + 1, x0, x4, x5, x6, x7, x8, x9, x10, x13, x15, x60, x192000, x192001, x192002, x192003, x192004, x192005 => if x60 = true then (gimballaw21_MotionWindows.l2 k x0 x4 x5 x6 x7 x8 x9 x10 x13 0 (wrap64 ((x5.length : Int) - 1)) x192000 x192001 x192002 x192003 x192004 x192005) else (if (x13 != x15) = true then (some false) else (gimballaw21_MotionWindows.l1 k x0 (wrap64 (x4 + 500)) x5 x6 x7 x8 x9 (wrap64 (x10 + 1)) x192000 x192001 x192002 x192003 x192004 x192005))
def gimballaw21_MotionWindows.l2 : Nat → List (S36) → Int → List Bool → Bool → Bool → Int → Bool → Int → Bool → Int → Int → Bool → Int → Int → Int → Int → Bool → Option (Bool)
  | 0, _, _, _, _, _, _, _, _, _, _, _, _, _, _, _, _, _ => none
  | k + 1, x0, x4, x5, x6, x7, x8, x9, x10, x13, x16, x17, x192000, x192001, x192002, x192003, x192004, x192005 => if x17 ≥ 0 then (gimballaw21_MotionWindows.j7 k x0 x4 x5 x6 x7 x8 x9 x10 x13 x16 x17 (decide (x17 ≥ (wrap64 ((x5.length : Int) - 8)))) x192000 x192001 x192002 x192003 x192004 x192005) else (gimballaw21_MotionWindows.j7 k x0 x4 x5 x6 x7 x8 x9 x10 x13 x16 x17 false x192000 x192001 x192002 x192003 x192004 x192005)
def gimballaw21_MotionWindows.j7 : Nat → List (S36) → Int → List Bool → Bool → Bool → Int → Bool → Int → Bool → Int → Int → Bool → Bool → Int → Int → Int → Int → Bool → Option (Bool)
  | 0, _, _, _, _, _, _, _, _, _, _, _, _, _, _, _, _, _, _ => none
  | k + 1, x0, x4, x5, x6, x7, x8, x9, x10, x13, x16, x17, x72, x192000, x192001, x192002, x192003, x192004, x192005 => if x72 = true then (if 0 ≤ x17 then (if x17 < (x5.length : Int) then (if rdOf false x5 x17 = true then (gimballaw21_MotionWindows.l2 k x0 x4 x5 x6 x7 x8 x9 x10 x13 (wrap64 (x16 + 1)) (wrap64 (x17 - 1)) x192000 x192001 x192002 x192003 x192004 x192005) else (gimballaw21_MotionWindows.l2 k x0 x4 x5 x6 x7 x8 x9 x10 x13 x16 (wrap64 (x17 - 1)) x192000 x192001 x192002 x192003 x192004 x192005)) else (none)) else (none)) else (if x16 ≥ 5 then (if x6 = true then (if x16 > 0 then (if (x13 != (!x6)) = true then (some false) else (gimballaw21_MotionWindows.l1 k x0 (wrap64 (x4 + 500)) x5 true x7 x8 x9 (wrap64 (x10 + 1)) x192000 x192001 x192002 x192003 x192004 x192005)) else (if (x13 != (!x6)) = true then (some false) else (gimballaw21_MotionWindows.l1 k x0 (wrap64 (x4 + 500)) x5 (!x6) x7 x8 x9 (wrap64 (x10 + 1)) x192000 x192001 x192002 x192003 x192004 x192005))) else (if (x13 != (!x6)) = true then (some false) else (gimballaw21_MotionWindows.l1 k x0 (wrap64 (x4 + 500)) x5 (!x6) x7 x8 x9 (wrap64 (x10 + 1)) x192000 x192001 x192002 x192003 x192004 x192005))) else (if x6 = true then (if x16 > 0 then (if (x13 != false) = true then (some false) else (gimballaw21_MotionWindows.l1 k x0 (wrap64 (x4 + 500)) x5 true x7 x8 x9 (wrap64 (x10 + 1)) x192000 x192001 x192002 x192003 x192004 x192005)) else (if (x13 != false) = true then (some false) else (gimballaw21_MotionWindows.l1 k x0 (wrap64 (x4 + 500)) x5 false x7 x8 x9 (wrap64 (x10 + 1)) x192000 x192001 x192002 x192003 x192004 x192005))) else (if (x13 != false) = true then (some false) else (gimballaw21_MotionWindows.l1 k x0 (wrap64 (x4 + 500)) x5 false x7 x8 x9 (wrap64 (x10 + 1)) x192000 x192001 x192002 x192003 x192004 x192005))))
end
def gimballaw21_MotionWindows.f (k : Nat) (l0 : List (S36)) : Option (Bool) := gimballaw21_MotionWindows.l0 k l0 0 ([] : List Bool) false false 0 false 0 0 0 0 false
theorem gimballaw21_MotionWindows.mono_l : ∀ k, (∀ y0 y1 y2 y3 y4 y5 y6 y7 y8 y9 y10 y11, LeO (gimballaw21_MotionWindows.l0 k y0 y1 y2 y3 y4 y5 y6 y7 y8 y9 y10 y11) (gimballaw21_MotionWindows.l0 (k + 1) y0 y1 y2 y3 y4 y5 y6 y7 y8 y9 y10 y11)) ∧ (∀ y0 y1 y2 y3 y4 y5 y6 y7 y8 y9 y10 y11 y12, LeO (gimballaw21_MotionWindows.j1 k y0 y1 y2 y3 y4 y5 y6 y7 y8 y9 y10 y11 y12) (gimballaw21_MotionWindows.j1 (k + 1) y0 y1 y2 y3 y4 y5 y6 y7 y8 y9 y10 y11 y12)) ∧ (∀ y0 y1 y2 y3 y4 y5 y6 y7 y8 y9 y10 y11 y12 y13, LeO (gimballaw21_MotionWindows.l1 k y0 y1 y2 y3 y4 y5 y6 y7 y8 y9 y10 y11 y12 y13) (gimballaw21_MotionWindows.l1 (k + 1) y0 y1 y2 y3 y4 y5 y6 y7 y8 y9 y10 y11 y12 y13)) ∧ (∀ y0 y1 y2 y3 y4 y5 y6 y7 y8 y9 y10 y11 y12 y13 y14 y15, LeO (gimballaw21_MotionWindows.j3 k y0 y1 y2 y3 y4 y5 y6 y7 y8 y9 y10 y11 y12 y13 y14 y15) (gimballaw21_MotionWindows.j3 (k + 1) y0 y1 y2 y3 y4 y5 y6 y7 y8 y9 y10 y11 y12 y13 y14 y15)) ∧ (∀ y0 y1 y2 y3 y4 y5 y6 y7 y8 y9 y10 y11 y12 y13 y14, LeO (gimballaw21_MotionWindows.j4 k y0 y1 y2 y3 y4 y5 y6 y7 y8 y9 y10 y11 y12 y13 y14) (gimballaw21_MotionWindows.j4 (k + 1) y0 y1 y2 y3 y4 y5 y6 y7 y8 y9 y10 y11 y12 y13 y14)) ∧ (∀ y0 y1 y2 y3 y4 y5 y6 y7 y8 y9 y10 y11 y12 y13 y14 y15 y16, LeO (gimballaw21_MotionWindows.j5 k y0 y1 y2 y3 y4 y5 y6 y7 y8 y9 y10 y11 y12 y13 y14 y15 y16) (gimballaw21_MotionWindows.j5 (k + 1) y0 y1 y2 y3 y4 y5 y6 y7 y8 y9 y10 y11 y12 y13 y14 y15 y16)) ∧ (∀ y0 y1 y2 y3 y4 y5 y6 y7 y8 y9 y10 y11 y12 y13 y14 y15 y16, LeO (gimballaw21_MotionWindows.l2 k y0 y1 y2 y3 y4 y5 y6 y7 y8 y9 y10 y11 y12 y13 y14 y15 y16) (gimballaw21_MotionWindows.l2 (k + 1) y0 y1 y2 y3 y4 y5 y6 y7 y8 y9 y10 y11 y12 y13 y14 y15 y16)) ∧ (∀ y0 y1 y2 y3 y4 y5 y6 y7 y8 y9 y10 y11 y12 y13 y14 y15 y16 y17, LeO (gimballaw21_MotionWindows.j7 k y0 y1 y2 y3 y4 y5 y6 y7 y8 y9 y10 y11 y12 y13 y14 y15 y16 y17) (gimballaw21_MotionWindows.j7 (k + 1) y0 y1 y2 y3 y4 y5 y6 y7 y8 y9 y10 y11 y12 y13 y14 y15 y16 y17))
  | 0 => ⟨fun _ _ _ _ _ _ _ _ _ _ _ _ r h => by simp [gimballaw21_MotionWindows.l0] at h, fun _ _ _ _ _ _ _ _ _ _ _ _ _ r h => by simp [gimballaw21_MotionWindows.j1] at h, fun _ _ _ _ _ _ _ _ _ _ _ _ _ _ r h => by simp [gimballaw21_MotionWindows.l1] at h, fun _ _ _ _ _ _ _ _ _ _ _ _ _ _ _ _ r h => by simp [gimballaw21_MotionWindows.j3] at h, fun _ _ _ _ _ _ _ _ _ _ _ _ _ _ _ r h => by simp [gimballaw21_MotionWindows.j4] at h, fun _ _ _ _ _ _ _ _ _ _ _ _ _ _ _ _ _ r h => by simp [gimballaw21_MotionWindows.j5] at h, fun _ _ _ _ _ _ _ _ _ _ _ _ _ _ _ _ _ r h => by simp [gimballaw21_MotionWindows.l2] at h, fun _ _ _ _ _ _ _ _ _ _ _ _ _ _ _ _ _ _ r h => by simp [gimballaw21_MotionWindows.j7] at h⟩
  | k + 1 => by
    obtain ⟨ih0, ih1, ih2, ih3, ih4, ih5, ih6, ih7⟩ := gimballaw21_MotionWindows.mono_l k
    refine ⟨?_, ?_, ?_, ?_, ?_, ?_, ?_, ?_⟩
    · intro y0 y1 y2 y3 y4 y5 y6 y7 y8 y9 y10 y11
      unfold gimballaw21_MotionWindows.l0
      repeat' first
      | (with_reducible exact ih0 _ _ _ _ _ _ _ _ _ _ _ _)
      | (with_reducible exact ih1 _ _ _ _ _ _ _ _ _ _ _ _ _)
      | (with_reducible exact ih2 _ _ _ _ _ _ _ _ _ _ _ _ _ _)
      | (with_reducible exact ih3 _ _ _ _ _ _ _ _ _ _ _ _ _ _ _ _)
      | (with_reducible exact ih4 _ _ _ _ _ _ _ _ _ _ _ _ _ _ _)
      | (with_reducible exact ih5 _ _ _ _ _ _ _ _ _ _ _ _ _ _ _ _ _)
      | (with_reducible exact ih6 _ _ _ _ _ _ _ _ _ _ _ _ _ _ _ _ _)
      | (with_reducible exact ih7 _ _ _ _ _ _ _ _ _ _ _ _ _ _ _ _ _ _)
      | (with_reducible exact gimballaw21_wakes.mono _)
      | (with_reducible exact motion_Take.mono _ _ _ _ _ _ _ _ _)
      | (with_reducible exact LeO.refl _)
      | (with_reducible exact LeO.none _)
      | (with_reducible refine LeO.ite ?_ ?_)
      | (with_reducible refine LeO.bind ?_ (fun _ => ?_))
      | exact ih0 _ _ _ _ _ _ _ _ _ _ _ _
      | exact ih1 _ _ _ _ _ _ _ _ _ _ _ _ _
      | exact ih2 _ _ _ _ _ _ _ _ _ _ _ _ _ _
      | exact ih3 _ _ _ _ _ _ _ _ _ _ _ _ _ _ _ _
      | exact ih4 _ _ _ _ _ _ _ _ _ _ _ _ _ _ _
      | exact ih5 _ _ _ _ _ _ _ _ _ _ _ _ _ _ _ _ _
      | exact ih6 _ _ _ _ _ _ _ _ _ _ _ _ _ _ _ _ _
      | exact ih7 _ _ _ _ _ _ _ _ _ _ _ _ _ _ _ _ _ _
      | exact gimballaw21_wakes.mono _
      | exact motion_Take.mono _ _ _ _ _ _ _ _ _
      | exact LeO.none _
      | refine LeO.ite ?_ ?_
      | refine LeO.bind ?_ (fun _ => ?_)
    · intro y0 y1 y2 y3 y4 y5 y6 y7 y8 y9 y10 y11 y12
      unfold gimballaw21_MotionWindows.j1
      repeat' first
      | (with_reducible exact ih0 _ _ _ _ _ _ _ _ _ _ _ _)
      | (with_reducible exact ih1 _ _ _ _ _ _ _ _ _ _ _ _ _)
      | (with_reducible exact ih2 _ _ _ _ _ _ _ _ _ _ _ _ _ _)
      | (with_reducible exact ih3 _ _ _ _ _ _ _ _ _ _ _ _ _ _ _ _)
      | (with_reducible exact ih4 _ _ _ _ _ _ _ _ _ _ _ _ _ _ _)
      | (with_reducible exact ih5 _ _ _ _ _ _ _ _ _ _ _ _ _ _ _ _ _)
      | (with_reducible exact ih6 _ _ _ _ _ _ _ _ _ _ _ _ _ _ _ _ _)
      | (with_reducible exact ih7 _ _ _ _ _ _ _ _ _ _ _ _ _ _ _ _ _ _)
      | (with_reducible exact gimballaw21_wakes.mono _)
      | (with_reducible exact motion_Take.mono _ _ _ _ _ _ _ _ _)
      | (with_reducible exact LeO.refl _)
      | (with_reducible exact LeO.none _)
      | (with_reducible refine LeO.ite ?_ ?_)
      | (with_reducible refine LeO.bind ?_ (fun _ => ?_))
      | exact ih0 _ _ _ _ _ _ _ _ _ _ _ _
      | exact ih1 _ _ _ _ _ _ _ _ _ _ _ _ _
      | exact ih2 _ _ _ _ _ _ _ _ _ _ _ _ _ _
      | exact ih3 _ _ _ _ _ _ _ _ _ _ _ _ _ _ _ _
      | exact ih4 _ _ _ _ _ _ _ _ _ _ _ _ _ _ _
      | exact ih5 _ _ _ _ _ _ _ _ _ _ _ _ _ _ _ _ _
      | exact ih6 _ _ _ _ _ _ _ _ _ _ _ _ _ _ _ _ _
      | exact ih7 _ _ _ _ _ _ _ _ _ _ _ _ _ _ _ _ _ _
      | exact gimballaw21_wakes.mono _
      | exact motion_Take.mono _ _ _ _ _ _ _ _ _
      | exact LeO.none _
      | refine LeO.ite ?_ ?_
      | refine LeO.bind ?_ (fun _ => ?_)
    · intro y0 y1 y2 y3 y4 y5 y6 y7 y8 y9 y10 y11 y12 y13
      unfold gimballaw21_MotionWindows.l1
      repeat' first
      | (with_reducible exact ih0 _ _ _ _ _ _ _ _ _ _ _ _)
      | (with_reducible exact ih1 _ _ _ _ _ _ _ _ _ _ _ _ _)
      | (with_reducible exact ih2 _ _ _ _ _ _ _ _ _ _ _ _ _ _)
      | (with_reducible exact ih3 _ _ _ _ _ _ _ _ _ _ _ _ _ _ _ _)
      | (with_reducible exact ih4 _ _ _ _ _ _ _ _ _ _ _ _ _ _ _)
      | (with_reducible exact ih5 _ _ _ _ _ _ _ _ _ _ _ _ _ _ _ _ _)
      | (with_reducible exact ih6 _ _ _ _ _ _ _ _ _ _ _ _ _ _ _ _ _)
      | (with_reducible exact ih7 _ _ _ _ _ _ _ _ _ _ _ _ _ _ _ _ _ _)
      | (with_reducible exact gimballaw21_wakes.mono _)
      | (with_reducible exact motion_Take.mono _ _ _ _ _ _ _ _ _)
      | (with_reducible exact LeO.refl _)
      | (with_reducible exact LeO.none _)
      | (with_reducible refine LeO.ite ?_ ?_)
      | (with_reducible refine LeO.bind ?_ (fun _ => ?_))
      | exact ih0 _ _ _ _ _ _ _ _ _ _ _ _
      | exact ih1 _ _ _ _ _ _ _ _ _ _ _ _ _
      | exact ih2 _ _ _ _ _ _ _ _ _ _ _ _ _ _
      | exact ih3 _ _ _ _ _ _ _ _ _ _ _ _ _ _ _ _
      | exact ih4 _ _ _ _ _ _ _ _ _ _ _ _ _ _ _
      | exact ih5 _ _ _ _ _ _ _ _ _ _ _ _ _ _ _ _ _
      | exact ih6 _ _ _ _ _ _ _ _ _ _ _ _ _ _ _ _ _
      | exact ih7 _ _ _ _ _ _ _ _ _ _ _ _ _ _ _ _ _ _
      | exact gimballaw21_wakes.mono _
      | exact motion_Take.mono _ _ _ _ _ _ _ _ _
      | exact LeO.none _
      | refine LeO.ite ?_ ?_
      | refine LeO.bind ?_ (fun _ => ?_)
    · intro y0 y1 y2 y3 y4 y5 y6 y7 y8 y9 y10 y11 y12 y13 y14 y15
      unfold gimballaw21_MotionWindows.j3
      repeat' first
      | (with_reducible exact ih0 _ _ _ _ _ _ _ _ _ _ _ _)
      | (with_reducible exact ih1 _ _ _ _ _ _ _ _ _ _ _ _ _)
      | (with_reducible exact ih2 _ _ _ _ _ _ _ _ _ _ _ _ _ _)
      | (with_reducible exact ih3 _ _ _ _ _ _ _ _ _ _ _ _ _ _ _ _)
      | (with_reducible exact ih4 _ _ _ _ _ _ _ _ _ _ _ _ _ _ _)
      | (with_reducible exact ih5 _ _ _ _ _ _ _ _ _ _ _ _ _ _ _ _ _)
      | (with_reducible exact ih6 _ _ _ _ _ _ _ _ _ _ _ _ _ _ _ _ _)
      | (with_reducible exact ih7 _ _ _ _ _ _ _ _ _ _ _ _ _ _ _ _ _ _)
      | (with_reducible exact gimballaw21_wakes.mono _)
      | (with_reducible exact motion_Take.mono _ _ _ _ _ _ _ _ _)
      | (with_reducible exact LeO.refl _)
      | (with_reducible exact LeO.none _)
      | (with_reducible refine LeO.ite ?_ ?_)
      | (with_reducible refine LeO.bind ?_ (fun _ => ?_))
      | exact ih0 _ _ _ _ _ _ _ _ _ _ _ _
      | exact ih1 _ _ _ _ _ _ _ _ _ _ _ _ _
      | exact ih2 _ _ _ _ _ _ _ _ _ _ _ _ _ _
      | exact ih3 _ _ _ _ _ _ _ _ _ _ _ _ _ _ _ _
      | exact ih4 _ _ _ _ _ _ _ _ _ _ _ _ _ _ _
      | exact ih5 _ _ _ _ _ _ _ _ _ _ _ _ _ _ _ _ _
      | exact ih6 _ _ _ _ _ _ _ _ _ _ _ _ _ _ _ _ _
      | exact ih7 _ _ _ _ _ _ _ _ _ _ _ _ _ _ _ _ _ _
      | exact gimballaw21_wakes.mono _
      | exact motion_Take.mono _ _ _ _ _ _ _ _ _
      | exact LeO.none _
      | refine LeO.ite ?_ ?_
      | refine LeO.bind ?_ (fun _ => ?_)
    · intro y0 y1 y2 y3 y4 y5 y6 y7 y8 y9 y10 y11 y12 y13 y14
      unfold gimballaw21_MotionWindows.j4
      repeat' first
      | (with_reducible exact ih0 _ _ _ _ _ _ _ _ _ _ _ _)
      | (with_reducible exact ih1 _ _ _ _ _ _ _ _ _ _ _ _ _)
      | (with_reducible exact ih2 _ _ _ _ _ _ _ _ _ _ _ _ _ _)
      | (with_reducible exact ih3 _ _ _ _ _ _ _ _ _ _ _ _ _ _ _ _)
      | (with_reducible exact ih4 _ _ _ _ _ _ _ _ _ _ _ _ _ _ _)
      | (with_reducible exact ih5 _ _ _ _ _ _ _ _ _ _ _ _ _ _ _ _ _)
      | (with_reducible exact ih6 _ _ _ _ _ _ _ _ _ _ _ _ _ _ _ _ _)
      | (with_reducible exact ih7 _ _ _ _ _ _ _ _ _ _ _ _ _ _ _ _ _ _)
      | (with_reducible exact gimballaw21_wakes.mono _)
      | (with_reducible exact motion_Take.mono _ _ _ _ _ _ _ _ _)
      | (with_reducible exact LeO.refl _)
      | (with_reducible exact LeO.none _)
      | (with_reducible refine LeO.ite ?_ ?_)
      | (with_reducible refine LeO.bind ?_ (fun _ => ?_))
      | exact ih0 _ _ _ _ _ _ _ _ _ _ _ _
      | exact ih1 _ _ _ _ _ _ _ _ _ _ _ _ _
      | exact ih2 _ _ _ _ _ _ _ _ _ _ _ _ _ _
      | exact ih3 _ _ _ _ _ _ _ _ _ _ _ _ _ _ _ _
      | exact ih4 _ _ _ _ _ _ _ _ _ _ _ _ _ _ _
      | exact ih5 _ _ _ _ _ _ _ _ _ _ _ _ _ _ _ _ _
      | exact ih6 _ _ _ _ _ _ _ _ _ _ _ _ _ _ _ _ _
      | exact ih7 _ _ _ _ _ _ _ _ _ _ _ _ _ _ _ _ _ _
      | exact gimballaw21_wakes.mono _
      | exact motion_Take.mono _ _ _ _ _ _ _ _ _
      | exact LeO.none _
      | refine LeO.ite ?_ ?_
      | refine LeO.bind ?_ (fun _ => ?_)
    · intro y0 y1 y2 y3 y4 y5 y6 y7 y8 y9 y10 y11 y12 y13 y14 y15 y16
      unfold gimballaw21_MotionWindows.j5
      repeat' first
      | (with_reducible exact ih0 _ _ _ _ _ _ _ _ _ _ _ _)
      | (with_reducible exact ih1 _ _ _ _ _ _ _ _ _ _ _ _ _)
      | (with_reducible exact ih2 _ _ _ _ _ _ _ _ _ _ _ _ _ _)
      | (with_reducible exact ih3 _ _ _ _ _ _ _ _ _ _ _ _ _ _ _ _)
      | (with_reducible exact ih4 _ _ _ _ _ _ _ _ _ _ _ _ _ _ _)
      | (with_reducible exact ih5 _ _ _ _ _ _ _ _ _ _ _ _ _ _ _ _ _)
      | (with_reducible exact ih6 _ _ _ _ _ _ _ _ _ _ _ _ _ _ _ _ _)
      | (with_reducible exact ih7 _ _ _ _ _ _ _ _ _ _ _ _ _ _ _ _ _ _)
      | (with_reducible exact gimballaw21_wakes.mono _)
      | (with_reducible exact motion_Take.mono _ _ _ _ _ _ _ _ _)
      | (with_reducible exact LeO.refl _)
      | (with_reducible exact LeO.none _)
      | (with_reducible refine LeO.ite ?_ ?_)
      | (with_reducible refine LeO.bind ?_ (fun _ => ?_))
      | exact ih0 _ _ _ _ _ _ _ _ _ _ _ _
      | exact ih1 _ _ _ _ _ _ _ _ _ _ _ _ _
      | exact ih2 _ _ _ _ _ _ _ _ _ _ _ _ _ _
      | exact ih3 _ _ _ _ _ _ _ _ _ _ _ _ _ _ _ _
      | exact ih4 _ _ _ _ _ _ _ _ _ _ _ _ _ _ _
      | exact ih5 _ _ _ _ _ _ _ _ _ _ _ _ _ _ _ _ _
      | exact ih6 _ _ _ _ _ _ _ _ _ _ _ _ _ _ _ _ _
      | exact ih7 _ _ _ _ _ _ _ _ _ _ _ _ _ _ _ _ _ _
      | exact gimballaw21_wakes.mono _
      | exact motion_Take.mono _ _ _ _ _ _ _ _ _
      | exact LeO.none _
      | refine LeO.ite ?_ ?_
      | refine LeO.bind ?_ (fun _ => ?_)
    · intro y0 y1 y2 y3 y4 y5 y6 y7 y8 y9 y10 y11 y12 y13 y14 y15 y16
      unfold gimballaw21_MotionWindows.l2
      repeat' first
      | (with_reducible exact ih0 _ _ _ _ _ _ _ _ _ _ _ _)
      | (with_reducible exact ih1 _ _ _ _ _ _ _ _ _ _ _ _ _)
      | (with_reducible exact ih2 _ _ _ _ _ _ _ _ _ _ _ _ _ _)
      | (with_reducible exact ih3 _ _ _ _ _ _ _ _ _ _ _ _ _ _ _ _)
      | (with_reducible exact ih4 _ _ _ _ _ _ _ _ _ _ _ _ _ _ _)
      | (with_reducible exact ih5 _ _ _ _ _ _ _ _ _ _ _ _ _ _ _ _ _)
      | (with_reducible exact ih6 _ _ _ _ _ _ _ _ _ _ _ _ _ _ _ _ _)
      | (with_reducible exact ih7 _ _ _ _ _ _ _ _ _ _ _ _ _ _ _ _ _ _)
      | (with_reducible exact gimballaw21_wakes.mono _)
      | (with_reducible exact motion_Take.mono _ _ _ _ _ _ _ _ _)
      | (with_reducible exact LeO.refl _)
      | (with_reducible exact LeO.none _)
      | (with_reducible refine LeO.ite ?_ ?_)
      | (with_reducible refine LeO.bind ?_ (fun _ => ?_))
      | exact ih0 _ _ _ _ _ _ _ _ _ _ _ _
      | exact ih1 _ _ _ _ _ _ _ _ _ _ _ _ _
      | exact ih2 _ _ _ _ _ _ _ _ _ _ _ _ _ _
      | exact ih3 _ _ _ _ _ _ _ _ _ _ _ _ _ _ _ _
      | exact ih4 _ _ _ _ _ _ _ _ _ _ _ _ _ _ _
      | exact ih5 _ _ _ _ _ _ _ _ _ _ _ _ _ _ _ _ _
      | exact ih6 _ _ _ _ _ _ _ _ _ _ _ _ _ _ _ _ _
      | exact ih7 _ _ _ _ _ _ _ _ _ _ _ _ _ _ _ _ _ _
      | exact gimballaw21_wakes.mono _
      | exact motion_Take.mono _ _ _ _ _ _ _ _ _
      | exact LeO.none _
      | refine LeO.ite ?_ ?_
      | refine LeO.bind ?_ (fun _ => ?_)
    · intro y0 y1 y2 y3 y4 y5 y6 y7 y8 y9 y10 y11 y12 y13 y14 y15 y16 y17
      unfold gimballaw21_MotionWindows.j7
      repeat' first
      | (with_reducible exact ih0 _ _ _ _ _ _ _ _ _ _ _ _)
      | (with_reducible exact ih1 _ _ _ _ _ _ _ _ _ _ _ _ _)
      | (with_reducible exact ih2 _ _ _ _ _ _ _ _ _ _ _ _ _ _)
      | (with_reducible exact ih3 _ _ _ _ _ _ _ _ _ _ _ _ _ _ _ _)
      | (with_reducible exact ih4 _ _ _ _ _ _ _ _ _ _ _ _ _ _ _)
      | (with_reducible exact ih5 _ _ _ _ _ _ _ _ _ _ _ _ _ _ _ _ _)
      | (with_reducible exact ih6 _ _ _ _ _ _ _ _ _ _ _ _ _ _ _ _ _)
      | (with_reducible exact ih7 _ _ _ _ _ _ _ _ _ _ _ _ _ _ _ _ _ _)
      | (with_reducible exact gimballaw21_wakes.mono _)
      | (with_reducible exact motion_Take.mono _ _ _ _ _ _ _ _ _)
      | (with_reducible exact LeO.refl _)
      | (with_reducible exact LeO.none _)
      | (with_reducible refine LeO.ite ?_ ?_)
      | (with_reducible refine LeO.bind ?_ (fun _ => ?_))
      | exact ih0 _ _ _ _ _ _ _ _ _ _ _ _
      | exact ih1 _ _ _ _ _ _ _ _ _ _ _ _ _
      | exact ih2 _ _ _ _ _ _ _ _ _ _ _ _ _ _
      | exact ih3 _ _ _ _ _ _ _ _ _ _ _ _ _ _ _ _
      | exact ih4 _ _ _ _ _ _ _ _ _ _ _ _ _ _ _
      | exact ih5 _ _ _ _ _ _ _ _ _ _ _ _ _ _ _ _ _
      | exact ih6 _ _ _ _ _ _ _ _ _ _ _ _ _ _ _ _ _
      | exact ih7 _ _ _ _ _ _ _ _ _ _ _ _ _ _ _ _ _ _
      | exact gimballaw21_wakes.mono _
      | exact motion_Take.mono _ _ _ _ _ _ _ _ _
      | exact LeO.none _
      | refine LeO.ite ?_ ?_
      | refine LeO.bind ?_ (fun _ => ?_)
theorem gimballaw21_MotionWindows.mono : ∀ a0 k, LeO (gimballaw21_MotionWindows.f k a0) (gimballaw21_MotionWindows.f (k + 1) a0) := by
  intro a0 k
  obtain ⟨ih0, ih1, ih2, ih3, ih4, ih5, ih6, ih7⟩ := gimballaw21_MotionWindows.mono_l k
  unfold gimballaw21_MotionWindows.f
  repeat' first
      | (with_reducible exact ih0 _ _ _ _ _ _ _ _ _ _ _ _)
      | (with_reducible exact ih1 _ _ _ _ _ _ _ _ _ _ _ _ _)
      | (with_reducible exact ih2 _ _ _ _ _ _ _ _ _ _ _ _ _ _)
      | (with_reducible exact ih3 _ _ _ _ _ _ _ _ _ _ _ _ _ _ _ _)
      | (with_reducible exact ih4 _ _ _ _ _ _ _ _ _ _ _ _ _ _ _)
      | (with_reducible exact ih5 _ _ _ _ _ _ _ _ _ _ _ _ _ _ _ _ _)
      | (with_reducible exact ih6 _ _ _ _ _ _ _ _ _ _ _ _ _ _ _ _ _)
      | (with_reducible exact ih7 _ _ _ _ _ _ _ _ _ _ _ _ _ _ _ _ _ _)
      | (with_reducible exact gimballaw21_wakes.mono _)
      | (with_reducible exact motion_Take.mono _ _ _ _ _ _ _ _ _)
      | (with_reducible exact LeO.refl _)
      | (with_reducible exact LeO.none _)
      | (with_reducible refine LeO.ite ?_ ?_)
      | (with_reducible refine LeO.bind ?_ (fun _ => ?_))
      | exact ih0 _ _ _ _ _ _ _ _ _ _ _ _
      | exact ih1 _ _ _ _ _ _ _ _ _ _ _ _ _
      | exact ih2 _ _ _ _ _ _ _ _ _ _ _ _ _ _
      | exact ih3 _ _ _ _ _ _ _ _ _ _ _ _ _ _ _ _
      | exact ih4 _ _ _ _ _ _ _ _ _ _ _ _ _ _ _
      | exact ih5 _ _ _ _ _ _ _ _ _ _ _ _ _ _ _ _ _
      | exact ih6 _ _ _ _ _ _ _ _ _ _ _ _ _ _ _ _ _
      | exact ih7 _ _ _ _ _ _ _ _ _ _ _ _ _ _ _ _ _ _
      | exact gimballaw21_wakes.mono _
      | exact motion_Take.mono _ _ _ _ _ _ _ _ _
      | exact LeO.none _
      | refine LeO.ite ?_ ?_
      | refine LeO.bind ?_ (fun _ => ?_)
set_option maxHeartbeats 8000000 in
set_option maxRecDepth 100000 in
theorem gimballaw21_MotionWindows.calls (k : Nat) (A0 : Option Addr) (c0 : Nat) (l0 : List (S36)) (r : Bool) (w : World) (hr0 : Kd.C k36 w A0 l0.length l0) (hc0 : l0.length ≤ c0) (h : gimballaw21_MotionWindows.f k l0 = some r) :
    Calls Try.prog 6 #[.slice A0 l0.length c0] w fun e w' => e = .returned (.bool r) ∧ Below w.heap.size w w' := by
  have hu33 := Try.underlying33
  have HR0 := Aside0.mk hr0
  have HC0 := Aside0.mk hc0
  clear hr0 hc0
  have HB := Aside0.mk (Below.refl w.heap.size w)
  have H : (gimballaw21_MotionWindows.l0 k l0 0 ([] : List Bool) false false 0 false 0 0 0 0 false) = some r := h
  clear h
  have H' := Aside0.mk H
  clear H
  go_enter Try.func6, Try.ntmps6
  go_wp2_with (first | ((with_reducible refine gate_dst (N := 3) rfl ?_); (try (refine gate_guard (by rfl) ?_; dsimp only)); refine box_event ?hg (N := 3) ?hd (cs := #[.bool false, .int .i64 0, .int .i64 0, .int .i64 0, .int .i64 0, .bool false]) (t := 33) ?hr ?_; (case hd => rfl); (case hg => rfl); (case hr => first | (go_simp; done) | (go_simp; rfl)); intro gb176 hg w2 hbox hb; have n0_ := Aside0.mk (below_step (by repeat (first | (with_reducible first | exact HB.out | apply below_alloc | apply pw_below_drewN | apply below_drew1) | exact HB.out)) hb); have n1_ := Aside0.mk (hbox); have n2_ := Aside0.mk ((by rw [hg]; exact (below_size (by repeat (first | (with_reducible first | exact HB.out | apply below_alloc | apply pw_below_drewN | apply below_drew1) | exact HB.out))) : w.heap.size ≤ gb176)); have n3_ := Aside0.mk ((by rw [hg]; exact (below_size (by repeat (first | (with_reducible first | exact HB.out | apply below_alloc | apply pw_below_drewN | apply below_drew1) | exact HB.out))) : w.heap.size ≤ gb176)); clear HB; have HB := n0_; have BK176 := n1_; have GW176 := n2_; have GE176 := n3_; clear n0_ n1_ n2_ n3_; clear hb hbox hg; have hcz3_0 : w2.cell? ⟨gb176, 0, none⟩ = some (.bool false) := (blk_cell BK176.out 0).trans rfl; have hcz3_1 : w2.cell? ⟨gb176, 1, none⟩ = some (.int .i64 0) := (blk_cell BK176.out 1).trans rfl; have hcz3_2 : w2.cell? ⟨gb176, 2, none⟩ = some (.int .i64 0) := (blk_cell BK176.out 2).trans rfl; have hcz3_3 : w2.cell? ⟨gb176, 3, none⟩ = some (.int .i64 0) := (blk_cell BK176.out 3).trans rfl; have hcz3_4 : w2.cell? ⟨gb176, 4, none⟩ = some (.int .i64 0) := (blk_cell BK176.out 4).trans rfl; have hcz3_5 : w2.cell? ⟨gb176, 5, none⟩ = some (.bool false) := (blk_cell BK176.out 5).trans rfl; have hfz3_0 := blk_frozen BK176.out 0; have hfz3_1 := blk_frozen BK176.out 1; have hfz3_2 := blk_frozen BK176.out 2; have hfz3_3 := blk_frozen BK176.out 3; have hfz3_4 := blk_frozen BK176.out 4; have hfz3_5 := blk_frozen BK176.out 5))
  go_loopg [4, 5, 6, 7, 8] k (fun kq v4 v5 v6 v7 v8 w' => ∃ (x4_1 : Int) (x5_1 : List Bool) (x6_1 : Bool) (x7_1 : Bool) (x8_1 : Int) (x177000_1 : Bool) (x177001_1 : Int) (x177002_1 : Int) (x177003_1 : Int) (x177004_1 : Int) (x177005_1 : Bool), v4 = .int .i64 x4_1 ∧ v6 = .bool x6_1 ∧ v7 = .bool x7_1 ∧ v8 = .int .i64 x8_1 ∧ Aside0 (gimballaw21_MotionWindows.l0 kq l0 x4_1 x5_1 x6_1 x7_1 x8_1 x177000_1 x177001_1 x177002_1 x177003_1 x177004_1 x177005_1 = some r) ∧ Aside0 (kq ≤ k) ∧ Aside0 (Kd.R Kd.bool 4 w' w.heap.size (fun _ => True) v5 x5_1) ∧ Aside0 (w'.heap[gb176]? = some (.cells #[.bool x177000_1, .int .i64 x177001_1, .int .i64 x177002_1, .int .i64 x177003_1, .int .i64 x177004_1, .bool x177005_1] 33 (0, 0))) ∧ Aside0 (Below w.heap.size w w'))
  case atStart => exact ⟨(0), (([] : List Bool)), (false), (false), (0), (false), (0), (0), (0), (0), (false), (by first | rfl | (simp; done) | (simp [*]; done)), (by first | rfl | (simp; done) | (simp [*]; done)), (by first | rfl | (simp; done) | (simp [*]; done)), (by first | rfl | (simp; done) | (simp [*]; done)), H', ⟨Nat.le_refl _⟩, ⟨by first | exact Kd.R_nil _ _ _ _ _ | exact Kd.N_nil _ _ _ _ _ | exact Kd.V_nil _ _ _ _ _ | exact Kd.Q_nil _ _ _ _ _ | exact Kd.S_nil _ _ _ _ _⟩, ⟨by (with_reducible repeat (first | refine blk_drewN ?_ _ | refine blk_drew ?_ | refine blk_alloc ?_ _)); refine blk_put (cs := #[.bool false, .int .i64 0, .int .i64 0, .int .i64 0, .int .i64 0, .bool false]) ?_ 5 _ rfl; (with_reducible repeat (first | refine blk_drewN ?_ _ | refine blk_drew ?_ | refine blk_alloc ?_ _)); refine blk_put (cs := #[.bool false, .int .i64 0, .int .i64 0, .int .i64 0, .int .i64 0, .bool false]) ?_ 4 _ rfl; (with_reducible repeat (first | refine blk_drewN ?_ _ | refine blk_drew ?_ | refine blk_alloc ?_ _)); refine blk_put (cs := #[.bool false, .int .i64 0, .int .i64 0, .int .i64 0, .int .i64 0, .bool false]) ?_ 3 _ rfl; (with_reducible repeat (first | refine blk_drewN ?_ _ | refine blk_drew ?_ | refine blk_alloc ?_ _)); refine blk_put (cs := #[.bool false, .int .i64 0, .int .i64 0, .int .i64 0, .int .i64 0, .bool false]) ?_ 2 _ rfl; (with_reducible repeat (first | refine blk_drewN ?_ _ | refine blk_drew ?_ | refine blk_alloc ?_ _)); refine blk_put (cs := #[.bool false, .int .i64 0, .int .i64 0, .int .i64 0, .int .i64 0, .bool false]) ?_ 1 _ rfl; (with_reducible repeat (first | refine blk_drewN ?_ _ | refine blk_drew ?_ | refine blk_alloc ?_ _)); refine blk_put (cs := #[.bool false, .int .i64 0, .int .i64 0, .int .i64 0, .int .i64 0, .bool false]) ?_ 0 _ rfl; (with_reducible repeat (first | refine blk_drewN ?_ _ | refine blk_drew ?_ | refine blk_alloc ?_ _)); exact BK176.out⟩, ⟨by repeat (first | (with_reducible first | exact HB.out | apply below_alloc | apply pw_below_drewN | apply below_drew1 | refine below_set ?_ GE176.out) | exact HB.out)⟩⟩
  case round =>
    clear H'
    try clear p2
    try clear hcz3_0
    try clear hcz3_1
    try clear hcz3_2
    try clear hcz3_3
    try clear hcz3_4
    try clear hcz3_5
    try clear hfz3_0
    try clear hfz3_1
    try clear hfz3_2
    try clear hfz3_3
    try clear hfz3_4
    try clear hfz3_5
    obtain ⟨x4_1, x5_1, x6_1, x7_1, x8_1, x177000_1, x177001_1, x177002_1, x177003_1, x177004_1, x177005_1, rfl, rfl, rfl, rfl, HA, HK1, HO_5, BK176, HB⟩ := hrel
    cases gk with
    | zero => exact absurd HA.out (by simp [gimballaw21_MotionWindows.l0])
    | succ k1 =>
      have H := HA.out
      clear HA
      simp only [gimballaw21_MotionWindows.l0] at H
      have HC4 := Aside0.mk H
      clear H
      go_upto_region 7 with (fail)
      go_cut [26] (fun v26 wc => ∃ (kq : Nat) (x26_3 : Bool), v26 = .bool x26_3 ∧ Aside0 (gimballaw21_MotionWindows.j1 kq l0 x4_1 x5_1 x6_1 x7_1 x8_1 x26_3 x177000_1 x177001_1 x177002_1 x177003_1 x177004_1 x177005_1 = some r) ∧ Aside0 (kq ≤ k1) ∧ Aside0 (Kd.R Kd.bool 4 wc w.heap.size (fun _ => True) u5 x5_1) ∧ Aside0 (wc.heap[gb176]? = some (.cells #[.bool x177000_1, .int .i64 x177001_1, .int .i64 x177002_1, .int .i64 x177003_1, .int .i64 x177004_1, .bool x177005_1] 33 (0, 0))) ∧ Aside0 (Below w.heap.size w wc))
      case first =>
        have H := HC4.out
        clear HC4
        by_cases c5 : x8_1 < (l0.length : Int)
        · rw [if_pos c5] at H
          have c5b0 : decide (x8_1 < (l0.length : Int)) = true := decide_eq_true c5
          clear c5
          (first | rw [c5b0] | (simp only [i64_w, i32_w]; rw [c5b0]) | skip)
          have H' := Aside0.mk H
          clear H
          go_wp2
          go_meet
          case rel => exact ⟨_, (decide (x8_1 < 100)), (by first | rfl | (simp; done) | (simp [*]; done)), H', ⟨by have := HK1.out; first | omega | exact Nat.le_refl _⟩, ⟨by (with_reducible repeat (first | apply Kd.R_alloc | apply Kd.R_drewN | apply Kd.R_drew)); exact HO_5.out⟩, ⟨by (with_reducible repeat (first | refine blk_drewN ?_ _ | refine blk_drew ?_ | refine blk_alloc ?_ _)); exact BK176.out⟩, ⟨by repeat (first | (with_reducible first | exact HB.out | apply below_alloc | apply pw_below_drewN | apply below_drew1 | refine below_set ?_ GE176.out) | exact HB.out)⟩⟩
        · rw [if_neg c5] at H
          have c5b0 : decide (x8_1 < (l0.length : Int)) = false := decide_eq_false c5
          clear c5
          (first | rw [c5b0] | (simp only [i64_w, i32_w]; rw [c5b0]) | skip)
          have H' := Aside0.mk H
          clear H
          go_wp2
          go_meet
          case rel => exact ⟨_, (false), (by first | rfl | (simp; done) | (simp [*]; done)), H', ⟨by have := HK1.out; first | omega | exact Nat.le_refl _⟩, ⟨by (with_reducible repeat (first | apply Kd.R_alloc | apply Kd.R_drewN | apply Kd.R_drew)); exact HO_5.out⟩, ⟨by (with_reducible repeat (first | refine blk_drewN ?_ _ | refine blk_drew ?_ | refine blk_alloc ?_ _)); exact BK176.out⟩, ⟨by repeat (first | (with_reducible first | exact HB.out | apply below_alloc | apply pw_below_drewN | apply below_drew1 | refine below_set ?_ GE176.out) | exact HB.out)⟩⟩
      case rest =>
        clear HC4
        try clear p2
        try clear c5
        try clear c5b0
        try clear hcz3_0
        try clear hcz3_1
        try clear hcz3_2
        try clear hcz3_3
        try clear hcz3_4
        try clear hcz3_5
        try clear hfz3_0
        try clear hfz3_1
        try clear hfz3_2
        try clear hfz3_3
        try clear hfz3_4
        try clear hfz3_5
        try clear p2
        obtain ⟨kq, x26_3, rfl, HA, HJ3, HO_5, BK176, HB⟩ := hcut
        cases kq with
        | zero => exact absurd HA.out (by simp [gimballaw21_MotionWindows.j1])
        | succ kj3 =>
          have H := HA.out
          clear HA
          simp only [gimballaw21_MotionWindows.j1] at H
          by_cases c6 : x26_3 = true
          · subst c6
            have H1 : (if 0 ≤ x8_1 then (if x8_1 < (l0.length : Int) then ((gimballaw0_Within.f ((rd_T36 l0 x8_1).f1) 3).bind fun t179 => (gimballaw21_MotionWindows.l1 kj3 l0 x4_1 x5_1 x6_1 x7_1 x8_1 (decide (t179 > 0)) 0 x177000_1 x177001_1 x177002_1 x177003_1 x177004_1 x177005_1)) else (none)) else (none)) = some r := by rw [if_pos rfl] at H; exact H
            clear H
            have H := H1
            clear H1
            by_cases c7 : 0 ≤ x8_1
            · rw [if_pos c7] at H
              have c7b0 : decide (0 ≤ x8_1) = true := decide_eq_true c7
              clear c7
              by_cases c8 : x8_1 < (l0.length : Int)
              · rw [if_pos c8] at H
                have c8b0 : decide (x8_1 < (l0.length : Int)) = true := decide_eq_true c8
                clear c8
                replace H := Option.bind_eq_some_iff.mp H
                obtain ⟨t179, A90, H⟩ := H
                replace H : (gimballaw21_MotionWindows.l1 kj3 l0 x4_1 x5_1 x6_1 x7_1 x8_1 (decide (t179 > 0)) 0 x177000_1 x177001_1 x177002_1 x177003_1 x177004_1 x177005_1) = some r := H
                have A9 := Aside0.mk A90
                clear A90
                obtain ⟨ji10, hji10⟩ : ∃ j_ : Bool, (decide (t179 > 0)) = j_ := ⟨_, rfl⟩
                replace H : (gimballaw21_MotionWindows.l1 kj3 l0 x4_1 x5_1 x6_1 x7_1 x8_1 ji10 0 x177000_1 x177001_1 x177002_1 x177003_1 x177004_1 x177005_1) = some r := by first | (rw [hji10] at H; exact H) | (simp only [hji10] at H ⊢; exact H)
                (try rw [hji10] at A9)
                have hji10_ : decide (0 < t179) = ji10 := hji10
                have H' := Aside0.mk H
                clear H
                have p178 : 0 ≤ (x8_1 : Int) := of_decide_eq_true (by first | (with_reducible assumption) | assumption)
                have q178 : x8_1 < (l0.length : Int) := of_decide_eq_true (by first | (with_reducible assumption) | assumption)
                obtain ⟨ad178, e178, hx178_0, hx178_1, hx178_2, hx178_3, hx178_4, hx178_5, hx178_6, hx178_7⟩ := at_T36 HR0.out x8_1 p178 q178
                cases e178
                replace hx178_0 := (HB.out.cell (World.block_lt_of_cell? w _ hx178_0)).trans hx178_0
                replace hx178_1 := (HB.out.cell (World.block_lt_of_cell? w _ hx178_1)).trans hx178_1
                replace hx178_2 := (HB.out.cell (World.block_lt_of_cell? w _ hx178_2)).trans hx178_2
                replace hx178_3 := (HB.out.cell (World.block_lt_of_cell? w _ hx178_3)).trans hx178_3
                replace hx178_4 := (HB.out.cell (World.block_lt_of_cell? w _ hx178_4)).trans hx178_4
                replace hx178_5 := (HB.out.cell (World.block_lt_of_cell? w _ hx178_5)).trans hx178_5
                replace hx178_6 := (HB.out.cell (World.block_lt_of_cell? w _ hx178_6)).trans hx178_6
                replace hx178_7 := (HB.out.cell (World.block_lt_of_cell? w _ hx178_7)).trans hx178_7
                replace p178 := eq_true p178
                replace q178 := eq_true q178
                go_wp2_with (first | ((with_reducible refine gate_callee (f := 20) rfl ?_); refine goesL_ (some 34) rfl rfl Try.func20 (by kernel_rfl) rfl #[.int .i64 ((rd_T36 l0 x8_1).f1), .int .i64 3] rfl (by (try simp only [List.map_toArray, List.map_cons, List.map_nil]); first | done | rfl | (simp only [List.length_drop, List.length_take]; rfl)) ?_; (with_reducible refine (gimballaw0_Within.calls ((rd_T36 l0 x8_1).f1) 3 t179 _ A9.out).mono ?_); rintro e w' ⟨rfl, ⟨nd, rfl⟩⟩; refine ⟨_, rfl, ?_⟩))
                go_loopg [4, 6, 10] kj3 (fun kq v4 v6 v10 w' => ∃ (x4_3 : Int) (x6_3 : Bool) (x10_3 : Int) (x177000_3 : Bool) (x177001_3 : Int) (x177002_3 : Int) (x177003_3 : Int) (x177004_3 : Int) (x177005_3 : Bool), v4 = .int .i64 x4_3 ∧ v6 = .bool x6_3 ∧ v10 = .int .i64 x10_3 ∧ Aside0 (gimballaw21_MotionWindows.l1 kq l0 x4_3 x5_1 x6_3 x7_1 x8_1 ji10 x10_3 x177000_3 x177001_3 x177002_3 x177003_3 x177004_3 x177005_3 = some r) ∧ Aside0 (kq ≤ kj3) ∧ Aside0 (Kd.R Kd.bool 4 w' w.heap.size (fun _ => True) u5 x5_1) ∧ Aside0 (w'.heap[gb176]? = some (.cells #[.bool x177000_3, .int .i64 x177001_3, .int .i64 x177002_3, .int .i64 x177003_3, .int .i64 x177004_3, .bool x177005_3] 33 (0, 0))) ∧ Aside0 (Below w.heap.size w w'))
                case atStart => exact ⟨(x4_1), (x6_1), (0), (x177000_1), (x177001_1), (x177002_1), (x177003_1), (x177004_1), (x177005_1), (by first | rfl | (simp; done) | (simp [*]; done)), (by first | rfl | (simp; done) | (simp [*]; done)), (by first | rfl | (simp; done) | (simp [*]; done)), H', ⟨Nat.le_refl _⟩, ⟨by (with_reducible repeat (first | apply Kd.R_alloc | apply Kd.R_drewN | apply Kd.R_drew)); exact HO_5.out⟩, ⟨by (with_reducible repeat (first | refine blk_drewN ?_ _ | refine blk_drew ?_ | refine blk_alloc ?_ _)); exact BK176.out⟩, ⟨by repeat (first | (with_reducible first | exact HB.out | apply below_alloc | apply pw_below_drewN | apply below_drew1 | refine below_set ?_ GE176.out) | exact HB.out)⟩⟩
                case round =>
                  clear H'
                  try clear p1
                  try clear q1
                  try clear hx1
                  try clear c2
                  try clear p2
                  try clear c5
                  try clear c5b0
                  try clear c6
                  try clear c7
                  try clear c7b0
                  try clear c8
                  try clear c8b0
                  try clear hcz3_0
                  try clear hcz3_1
                  try clear hcz3_2
                  try clear hcz3_3
                  try clear hcz3_4
                  try clear hcz3_5
                  try clear hfz3_0
                  try clear hfz3_1
                  try clear hfz3_2
                  try clear hfz3_3
                  try clear hfz3_4
                  try clear hfz3_5
                  try clear hx178_0
                  try clear hx178_1
                  try clear hx178_2
                  try clear hx178_3
                  try clear hx178_4
                  try clear hx178_5
                  try clear hx178_6
                  try clear hx178_7
                  try clear p178
                  try clear p2
                  try clear q178
                  obtain ⟨x4_3, x6_3, x10_3, x177000_3, x177001_3, x177002_3, x177003_3, x177004_3, x177005_3, rfl, rfl, rfl, HA, HK3, HO_5, BK176, HB⟩ := hrel
                  cases gk with
                  | zero => exact absurd HA.out (by simp [gimballaw21_MotionWindows.l1])
                  | succ k3 =>
                    have H := HA.out
                    clear HA
                    simp only [gimballaw21_MotionWindows.l1] at H
                    by_cases c11 : x10_3 < 2
                    · rw [if_pos c11] at H
                      have c11b0 : decide (x10_3 < 2) = true := decide_eq_true c11
                      clear c11
                      have HC12 := Aside0.mk H
                      clear H
                      go_upto_region 14 with (fail)
                      go_cut [44] (fun v44 wc => ∃ (kq : Nat) (x44_11 : Bool), v44 = .bool x44_11 ∧ Aside0 (gimballaw21_MotionWindows.j3 kq l0 x4_3 x5_1 x6_3 x7_1 x8_1 ji10 x10_3 9806650 x44_11 x177000_3 x177001_3 x177002_3 x177003_3 x177004_3 x177005_3 = some r) ∧ Aside0 (kq ≤ k3) ∧ Aside0 (Kd.R Kd.bool 4 wc w.heap.size (fun _ => True) u5 x5_1) ∧ Aside0 (wc.heap[gb176]? = some (.cells #[.bool x177000_3, .int .i64 x177001_3, .int .i64 x177002_3, .int .i64 x177003_3, .int .i64 x177004_3, .bool x177005_3] 33 (0, 0))) ∧ Aside0 (Below w.heap.size w wc))
                      case first =>
                        have H := HC12.out
                        clear HC12
                        by_cases c13 : ji10 = true
                        · subst c13
                          have H1 : (gimballaw21_MotionWindows.j3 k3 l0 x4_3 x5_1 x6_3 x7_1 x8_1 true x10_3 9806650 (x10_3 == 1) x177000_3 x177001_3 x177002_3 x177003_3 x177004_3 x177005_3) = some r := by rw [if_pos rfl] at H; exact H
                          clear H
                          have H := H1
                          clear H1
                          have H' := Aside0.mk H
                          clear H
                          go_wp2
                          go_meet
                          case rel => exact ⟨_, ((x10_3 == 1)), (by first | rfl | (simp; done) | (simp [*]; done)), H', ⟨by have := HK1.out; have := HJ3.out; have := HK3.out; first | omega | exact Nat.le_refl _⟩, ⟨by (with_reducible repeat (first | apply Kd.R_alloc | apply Kd.R_drewN | apply Kd.R_drew)); exact HO_5.out⟩, ⟨by (with_reducible repeat (first | refine blk_drewN ?_ _ | refine blk_drew ?_ | refine blk_alloc ?_ _)); exact BK176.out⟩, ⟨by repeat (first | (with_reducible first | exact HB.out | apply below_alloc | apply pw_below_drewN | apply below_drew1 | refine below_set ?_ GE176.out) | exact HB.out)⟩⟩
                        · replace c13 := Bool.eq_false_iff.mpr c13
                          subst c13
                          have H1 : (gimballaw21_MotionWindows.j3 k3 l0 x4_3 x5_1 x6_3 x7_1 x8_1 false x10_3 9806650 false x177000_3 x177001_3 x177002_3 x177003_3 x177004_3 x177005_3) = some r := by rw [if_neg (show ¬ (false = true) by decide)] at H; exact H
                          clear H
                          have H := H1
                          clear H1
                          have H' := Aside0.mk H
                          clear H
                          go_wp2
                          go_meet
                          case rel => exact ⟨_, (false), (by first | rfl | (simp; done) | (simp [*]; done)), H', ⟨by have := HK1.out; have := HJ3.out; have := HK3.out; first | omega | exact Nat.le_refl _⟩, ⟨by (with_reducible repeat (first | apply Kd.R_alloc | apply Kd.R_drewN | apply Kd.R_drew)); exact HO_5.out⟩, ⟨by (with_reducible repeat (first | refine blk_drewN ?_ _ | refine blk_drew ?_ | refine blk_alloc ?_ _)); exact BK176.out⟩, ⟨by repeat (first | (with_reducible first | exact HB.out | apply below_alloc | apply pw_below_drewN | apply below_drew1 | refine below_set ?_ GE176.out) | exact HB.out)⟩⟩
                      case rest =>
                        clear HC12
                        try clear c1
                        try clear p1
                        try clear q1
                        try clear hx1
                        try clear c2
                        try clear p2
                        try clear c5
                        try clear c5b0
                        try clear c6
                        try clear c7
                        try clear c7b0
                        try clear c8
                        try clear c8b0
                        try clear c11
                        try clear c11b0
                        try clear c13
                        try clear hcz3_0
                        try clear hcz3_1
                        try clear hcz3_2
                        try clear hcz3_3
                        try clear hcz3_4
                        try clear hcz3_5
                        try clear hfz3_0
                        try clear hfz3_1
                        try clear hfz3_2
                        try clear hfz3_3
                        try clear hfz3_4
                        try clear hfz3_5
                        try clear hx178_0
                        try clear hx178_1
                        try clear hx178_2
                        try clear hx178_3
                        try clear hx178_4
                        try clear hx178_5
                        try clear hx178_6
                        try clear hx178_7
                        try clear p1
                        try clear p178
                        try clear p2
                        try clear q1
                        try clear q178
                        obtain ⟨kq, x44_11, rfl, HA, HJ11, HO_5, BK176, HB⟩ := hcut
                        cases kq with
                        | zero => exact absurd HA.out (by simp [gimballaw21_MotionWindows.j3])
                        | succ kj11 =>
                          have H := HA.out
                          clear HA
                          simp only [gimballaw21_MotionWindows.j3] at H
                          have HC14 := Aside0.mk H
                          clear H
                          go_upto_if 44 with (fail)
                          go_cut [11] (fun v11 wc => ∃ (kq : Nat) (x11_13 : Int), v11 = .int .i64 x11_13 ∧ Aside0 (gimballaw21_MotionWindows.j4 kq l0 x4_3 x5_1 x6_3 x7_1 x8_1 ji10 x10_3 x11_13 x177000_3 x177001_3 x177002_3 x177003_3 x177004_3 x177005_3 = some r) ∧ Aside0 (kq ≤ kj11) ∧ Aside0 (Kd.R Kd.bool 4 wc w.heap.size (fun _ => True) u5 x5_1) ∧ Aside0 (wc.heap[gb176]? = some (.cells #[.bool x177000_3, .int .i64 x177001_3, .int .i64 x177002_3, .int .i64 x177003_3, .int .i64 x177004_3, .bool x177005_3] 33 (0, 0))) ∧ Aside0 (Below w.heap.size w wc))
                          case first =>
                            have H := HC14.out
                            clear HC14
                            by_cases c15 : x44_11 = true
                            · subst c15
                              have H1 : (gimballaw21_MotionWindows.j4 kj11 l0 x4_3 x5_1 x6_3 x7_1 x8_1 ji10 x10_3 19613300 x177000_3 x177001_3 x177002_3 x177003_3 x177004_3 x177005_3) = some r := by rw [if_pos rfl] at H; exact H
                              clear H
                              have H := H1
                              clear H1
                              have H' := Aside0.mk H
                              clear H
                              go_wp2
                              go_meet
                              case rel => exact ⟨_, (19613300), (by first | rfl | (simp; done) | (simp [*]; done)), H', ⟨by have := HK1.out; have := HJ3.out; have := HK3.out; have := HJ11.out; first | omega | exact Nat.le_refl _⟩, ⟨by (with_reducible repeat (first | apply Kd.R_alloc | apply Kd.R_drewN | apply Kd.R_drew)); exact HO_5.out⟩, ⟨by (with_reducible repeat (first | refine blk_drewN ?_ _ | refine blk_drew ?_ | refine blk_alloc ?_ _)); exact BK176.out⟩, ⟨by repeat (first | (with_reducible first | exact HB.out | apply below_alloc | apply pw_below_drewN | apply below_drew1 | refine below_set ?_ GE176.out) | exact HB.out)⟩⟩
                            · replace c15 := Bool.eq_false_iff.mpr c15
                              subst c15
                              have H1 : (gimballaw21_MotionWindows.j4 kj11 l0 x4_3 x5_1 x6_3 x7_1 x8_1 ji10 x10_3 9806650 x177000_3 x177001_3 x177002_3 x177003_3 x177004_3 x177005_3) = some r := by rw [if_neg (show ¬ (false = true) by decide)] at H; exact H
                              clear H
                              have H := H1
                              clear H1
                              have H' := Aside0.mk H
                              clear H
                              go_wp2
                              go_meet
                              case rel => exact ⟨_, (9806650), (by first | rfl | (simp; done) | (simp [*]; done)), H', ⟨by have := HK1.out; have := HJ3.out; have := HK3.out; have := HJ11.out; first | omega | exact Nat.le_refl _⟩, ⟨by (with_reducible repeat (first | apply Kd.R_alloc | apply Kd.R_drewN | apply Kd.R_drew)); exact HO_5.out⟩, ⟨by (with_reducible repeat (first | refine blk_drewN ?_ _ | refine blk_drew ?_ | refine blk_alloc ?_ _)); exact BK176.out⟩, ⟨by repeat (first | (with_reducible first | exact HB.out | apply below_alloc | apply pw_below_drewN | apply below_drew1 | refine below_set ?_ GE176.out) | exact HB.out)⟩⟩
                          case rest =>
                            clear HC14
                            try clear c1
                            try clear p1
                            try clear q1
                            try clear hx1
                            try clear c2
                            try clear p2
                            try clear c5
                            try clear c5b0
                            try clear c6
                            try clear c7
                            try clear c7b0
                            try clear c8
                            try clear c8b0
                            try clear c11
                            try clear c11b0
                            try clear c13
                            try clear c15
                            try clear hcz3_0
                            try clear hcz3_1
                            try clear hcz3_2
                            try clear hcz3_3
                            try clear hcz3_4
                            try clear hcz3_5
                            try clear hfz3_0
                            try clear hfz3_1
                            try clear hfz3_2
                            try clear hfz3_3
                            try clear hfz3_4
                            try clear hfz3_5
                            try clear hx178_0
                            try clear hx178_1
                            try clear hx178_2
                            try clear hx178_3
                            try clear hx178_4
                            try clear hx178_5
                            try clear hx178_6
                            try clear hx178_7
                            try clear p1
                            try clear p178
                            try clear p2
                            try clear q1
                            try clear q178
                            obtain ⟨kq, x11_13, rfl, HA, HJ13, HO_5, BK176, HB⟩ := hcut
                            cases kq with
                            | zero => exact absurd HA.out (by simp [gimballaw21_MotionWindows.j4])
                            | succ kj13 =>
                              have H := HA.out
                              clear HA
                              simp only [gimballaw21_MotionWindows.j4] at H
                              replace H := Option.bind_eq_some_iff.mp H
                              obtain ⟨⟨t183, t184, t185, t186, t187, t188, t189, t190⟩, A160, H⟩ := H
                              replace H : ((gimballaw21_num.f t190).bind fun t192 => (if t192 = 0 then (if x10_3 = 0 then (gimballaw21_MotionWindows.j5 kj13 l0 x4_3 x5_1 x6_3 x7_1 x8_1 ji10 x10_3 t189 false x7_1 t183 t184 t185 t186 t187 t188) else (gimballaw21_MotionWindows.j5 kj13 l0 x4_3 x5_1 x6_3 x7_1 x8_1 ji10 x10_3 t189 false false t183 t184 t185 t186 t187 t188)) else (some false))) = some r := H
                              have A16 := Aside0.mk A160
                              clear A160
                              replace H := Option.bind_eq_some_iff.mp H
                              obtain ⟨t192, A170, H⟩ := H
                              replace H : (if t192 = 0 then (if x10_3 = 0 then (gimballaw21_MotionWindows.j5 kj13 l0 x4_3 x5_1 x6_3 x7_1 x8_1 ji10 x10_3 t189 false x7_1 t183 t184 t185 t186 t187 t188) else (gimballaw21_MotionWindows.j5 kj13 l0 x4_3 x5_1 x6_3 x7_1 x8_1 ji10 x10_3 t189 false false t183 t184 t185 t186 t187 t188)) else (some false)) = some r := H
                              have A17 := Aside0.mk A170
                              clear A170
                              by_cases c18 : t192 = 0
                              · rw [if_pos c18] at H
                                have c18b0 : (t192 == 0) = true := beq_iff_eq.mpr c18
                                have c18b1 : (t192 != 0) = false := bne_eq_false_iff_eq.mpr c18
                                clear c18
                                have HC19 := Aside0.mk H
                                clear H
                                have hcz20_0 : wc.cell? ⟨gb176, 0, none⟩ = some (.bool x177000_3) := (blk_cell BK176.out 0).trans rfl
                                have hcz20_1 : wc.cell? ⟨gb176, 1, none⟩ = some (.int .i64 x177001_3) := (blk_cell BK176.out 1).trans rfl
                                have hcz20_2 : wc.cell? ⟨gb176, 2, none⟩ = some (.int .i64 x177002_3) := (blk_cell BK176.out 2).trans rfl
                                have hcz20_3 : wc.cell? ⟨gb176, 3, none⟩ = some (.int .i64 x177003_3) := (blk_cell BK176.out 3).trans rfl
                                have hcz20_4 : wc.cell? ⟨gb176, 4, none⟩ = some (.int .i64 x177004_3) := (blk_cell BK176.out 4).trans rfl
                                have hcz20_5 : wc.cell? ⟨gb176, 5, none⟩ = some (.bool x177005_3) := (blk_cell BK176.out 5).trans rfl
                                have hfz20_0 := blk_frozen BK176.out 0
                                have hfz20_1 := blk_frozen BK176.out 1
                                have hfz20_2 := blk_frozen BK176.out 2
                                have hfz20_3 := blk_frozen BK176.out 3
                                have hfz20_4 := blk_frozen BK176.out 4
                                have hfz20_5 := blk_frozen BK176.out 5
                                go_upto_region 20 with (first | ((with_reducible refine gate_callee (f := 21) rfl ?_); refine goesL_ (some 49) rfl rfl Try.func21 (by kernel_rfl) rfl #[.agg #[.bool x177000_3, .int .i64 x177001_3, .int .i64 x177002_3, .int .i64 x177003_3, .int .i64 x177004_3, .bool x177005_3], .int .i64 x11_13, .int .i64 x4_3] rfl (by (try simp only [List.map_toArray, List.map_cons, List.map_nil]); first | done | rfl | (simp only [List.length_drop, List.length_take]; rfl)) ?_; (with_reducible refine (motion_Take.calls kj13 x177000_3 x177001_3 x177002_3 x177003_3 x177004_3 x177005_3 x11_13 x4_3 t183 t184 t185 t186 t187 t188 t189 t190 _ A16.out).mono ?_); rintro e w21 ⟨rfl, hb⟩; refine ⟨_, rfl, ?_⟩; have n0_ := Aside0.mk (Kd.R_below (by (with_reducible repeat (first | apply Kd.R_alloc | apply Kd.R_drewN | apply Kd.R_drew)); exact HO_5.out) hb); have n1_ := Aside0.mk (blk_below (g := gb176) (o := .cells #[.bool x177000_3, .int .i64 x177001_3, .int .i64 x177002_3, .int .i64 x177003_3, .int .i64 x177004_3, .bool x177005_3] 33 (0, 0)) (by (with_reducible repeat (first | refine blk_drewN ?_ _ | refine blk_drew ?_ | refine blk_alloc ?_ _)); exact BK176.out) hb); have n2_ := Aside0.mk (below_step (by repeat (first | (with_reducible first | exact HB.out | apply below_alloc | apply pw_below_drewN | apply below_drew1 | refine below_set ?_ GE176.out) | exact HB.out)) hb); clear HO_5; clear BK176; clear HB; have HO_5 := n0_; have BK176 := n1_; have HB := n2_; clear n0_ n1_ n2_; (try clear hb); (try clear hb2); (try clear hk); (try clear hi)) | ((with_reducible refine gate_dst (N := 12) rfl ?_); (try (refine gate_guard (by rfl) ?_; dsimp only)); refine box_event ?hg (N := 12) ?hd (cs := #[.bool false, .int .i64 0, .int .i64 0, .int .i64 0, .int .i64 0, .bool false]) (t := 33) ?hr ?_; (case hd => rfl); (case hg => rfl); (case hr => first | (go_simp; done) | (go_simp; rfl)); intro gb191 hg w22 hbox hb; have n0_ := Aside0.mk (Kd.R_below (by (with_reducible repeat (first | apply Kd.R_alloc | apply Kd.R_drewN | apply Kd.R_drew)); exact HO_5.out) hb); have n1_ := Aside0.mk (blk_below (g := gb176) (o := .cells #[.bool x177000_3, .int .i64 x177001_3, .int .i64 x177002_3, .int .i64 x177003_3, .int .i64 x177004_3, .bool x177005_3] 33 (0, 0)) (by (with_reducible repeat (first | refine blk_drewN ?_ _ | refine blk_drew ?_ | refine blk_alloc ?_ _)); exact BK176.out) hb); have n2_ := Aside0.mk (below_step (by repeat (first | (with_reducible first | exact HB.out | apply below_alloc | apply pw_below_drewN | apply below_drew1 | refine below_set ?_ GE176.out) | exact HB.out)) hb); have n3_ := Aside0.mk (hbox); have n4_ := Aside0.mk ((by rw [hg]; exact (below_size (by repeat (first | (with_reducible first | exact HB.out | apply below_alloc | apply pw_below_drewN | apply below_drew1 | refine below_set ?_ GE176.out) | exact HB.out))) : w.heap.size ≤ gb191)); have n5_ := Aside0.mk ((by rw [hg]; exact (below_size (by repeat (first | (with_reducible first | exact HB.out | apply below_alloc | apply pw_below_drewN | apply below_drew1 | refine below_set ?_ GE176.out) | exact HB.out))) : w.heap.size ≤ gb191)); have n6_ := Aside0.mk ((by rw [hg]; exact Nat.ne_of_lt (blk_lt (g := gb176) (o := .cells #[.bool x177000_3, .int .i64 x177001_3, .int .i64 x177002_3, .int .i64 x177003_3, .int .i64 x177004_3, .bool x177005_3] 33 (0, 0)) (by (with_reducible repeat (first | refine blk_drewN ?_ _ | refine blk_drew ?_ | refine blk_alloc ?_ _)); exact BK176.out)) : gb176 ≠ gb191)); have n7_ := Aside0.mk ((by rw [hg]; exact Nat.ne_of_gt (blk_lt (g := gb176) (o := .cells #[.bool x177000_3, .int .i64 x177001_3, .int .i64 x177002_3, .int .i64 x177003_3, .int .i64 x177004_3, .bool x177005_3] 33 (0, 0)) (by (with_reducible repeat (first | refine blk_drewN ?_ _ | refine blk_drew ?_ | refine blk_alloc ?_ _)); exact BK176.out)) : gb191 ≠ gb176)); clear HO_5; clear BK176; clear HB; have HO_5 := n0_; have BK176 := n1_; have HB := n2_; have BK191 := n3_; have GW191 := n4_; have GE191 := n5_; have NB176_191 := n6_; have NB191_176 := n7_; clear n0_ n1_ n2_ n3_ n4_ n5_ n6_ n7_; clear hb hbox hg; have hnb23 := NB191_176.out; have hnc23 := NB176_191.out; have hcz24_0 : w22.cell? ⟨gb191, 0, none⟩ = some (.bool false) := (blk_cell BK191.out 0).trans rfl; have hcz24_1 : w22.cell? ⟨gb191, 1, none⟩ = some (.int .i64 0) := (blk_cell BK191.out 1).trans rfl; have hcz24_2 : w22.cell? ⟨gb191, 2, none⟩ = some (.int .i64 0) := (blk_cell BK191.out 2).trans rfl; have hcz24_3 : w22.cell? ⟨gb191, 3, none⟩ = some (.int .i64 0) := (blk_cell BK191.out 3).trans rfl; have hcz24_4 : w22.cell? ⟨gb191, 4, none⟩ = some (.int .i64 0) := (blk_cell BK191.out 4).trans rfl; have hcz24_5 : w22.cell? ⟨gb191, 5, none⟩ = some (.bool false) := (blk_cell BK191.out 5).trans rfl; have hfz24_0 := blk_frozen BK191.out 0; have hfz24_1 := blk_frozen BK191.out 1; have hfz24_2 := blk_frozen BK191.out 2; have hfz24_3 := blk_frozen BK191.out 3; have hfz24_4 := blk_frozen BK191.out 4; have hfz24_5 := blk_frozen BK191.out 5) | ((with_reducible refine gate_callee (f := 22) rfl ?_); refine goesL_ (some 54) rfl rfl Try.func22 (by kernel_rfl) rfl #[.int .i64 t190] rfl (by (try simp only [List.map_toArray, List.map_cons, List.map_nil]); first | done | rfl | (simp only [List.length_drop, List.length_take]; rfl)) ?_; (with_reducible refine (gimballaw21_num.calls t190 t192 _ A17.out).mono ?_); rintro e w' ⟨rfl, ⟨nd, rfl⟩⟩; refine ⟨_, rfl, ?_⟩))
                                (try simp only [Act.put, List.setIfInBounds_toArray, List.set_cons_zero, List.set_cons_succ])
                                go_cut [60] (fun v60 wc => ∃ (kq : Nat) (x60_18 : Bool), v60 = .bool x60_18 ∧ Aside0 (gimballaw21_MotionWindows.j5 kq l0 x4_3 x5_1 x6_3 x7_1 x8_1 ji10 x10_3 t189 false x60_18 t183 t184 t185 t186 t187 t188 = some r) ∧ Aside0 (kq ≤ kj13) ∧ Aside0 (Kd.R Kd.bool 4 wc w.heap.size (fun _ => True) u5 x5_1) ∧ Aside0 (wc.heap[gb176]? = some (.cells #[.bool x177000_3, .int .i64 x177001_3, .int .i64 x177002_3, .int .i64 x177003_3, .int .i64 x177004_3, .bool x177005_3] 33 (0, 0))) ∧ Aside0 (wc.heap[gb191]? = some (.cells #[.bool t183, .int .i64 t184, .int .i64 t185, .int .i64 t186, .int .i64 t187, .bool t188] 33 (0, 0))) ∧ Aside0 (Below w.heap.size w wc))
                                case first =>
                                  have H := HC19.out
                                  clear HC19
                                  by_cases c25 : x10_3 = 0
                                  · rw [if_pos c25] at H
                                    have c25b0 : (x10_3 == 0) = true := beq_iff_eq.mpr c25
                                    have c25b1 : (x10_3 != 0) = false := bne_eq_false_iff_eq.mpr c25
                                    clear c25
                                    (first | rw [c25b0] | (simp only [i64_w, i32_w]; rw [c25b0]) | skip)
                                    have H' := Aside0.mk H
                                    clear H
                                    go_wp2
                                    go_meet
                                    case rel => exact ⟨_, (x7_1), (by first | rfl | (simp; done) | (simp [*]; done)), H', ⟨by have := HK1.out; have := HJ3.out; have := HK3.out; have := HJ11.out; have := HJ13.out; first | omega | exact Nat.le_refl _⟩, ⟨by (with_reducible repeat (first | apply Kd.R_alloc | apply Kd.R_drewN | apply Kd.R_drew)); exact Kd.R_mono (Kd.R_far (p := ⟨gb191, 5, none⟩) (Kd.R_far (p := ⟨gb191, 4, none⟩) (Kd.R_far (p := ⟨gb191, 3, none⟩) (Kd.R_far (p := ⟨gb191, 2, none⟩) (Kd.R_far (p := ⟨gb191, 1, none⟩) (Kd.R_far (p := ⟨gb191, 0, none⟩) (Kd.R_types HO_5.out BK191.out (by decide)) (fun _ hk => hk.2) (.bool t183)) (fun _ hk => hk.2) (.int .i64 t184)) (fun _ hk => hk.2) (.int .i64 t185)) (fun _ hk => hk.2) (.int .i64 t186)) (fun _ hk => hk.2) (.int .i64 t187)) (fun _ hk => hk.2) (.bool t188)) (fun _ hk => trivial)⟩, ⟨by (with_reducible repeat (first | refine blk_drewN ?_ _ | refine blk_drew ?_ | refine blk_alloc ?_ _)); refine blk_far ?_ NB176_191.out _; (with_reducible repeat (first | refine blk_drewN ?_ _ | refine blk_drew ?_ | refine blk_alloc ?_ _)); refine blk_far ?_ NB176_191.out _; (with_reducible repeat (first | refine blk_drewN ?_ _ | refine blk_drew ?_ | refine blk_alloc ?_ _)); refine blk_far ?_ NB176_191.out _; (with_reducible repeat (first | refine blk_drewN ?_ _ | refine blk_drew ?_ | refine blk_alloc ?_ _)); refine blk_far ?_ NB176_191.out _; (with_reducible repeat (first | refine blk_drewN ?_ _ | refine blk_drew ?_ | refine blk_alloc ?_ _)); refine blk_far ?_ NB176_191.out _; (with_reducible repeat (first | refine blk_drewN ?_ _ | refine blk_drew ?_ | refine blk_alloc ?_ _)); refine blk_far ?_ NB176_191.out _; (with_reducible repeat (first | refine blk_drewN ?_ _ | refine blk_drew ?_ | refine blk_alloc ?_ _)); exact BK176.out⟩, ⟨by (with_reducible repeat (first | refine blk_drewN ?_ _ | refine blk_drew ?_ | refine blk_alloc ?_ _)); refine blk_put (cs := #[.bool t183, .int .i64 t184, .int .i64 t185, .int .i64 t186, .int .i64 t187, .bool false]) ?_ 5 _ rfl; (with_reducible repeat (first | refine blk_drewN ?_ _ | refine blk_drew ?_ | refine blk_alloc ?_ _)); refine blk_put (cs := #[.bool t183, .int .i64 t184, .int .i64 t185, .int .i64 t186, .int .i64 0, .bool false]) ?_ 4 _ rfl; (with_reducible repeat (first | refine blk_drewN ?_ _ | refine blk_drew ?_ | refine blk_alloc ?_ _)); refine blk_put (cs := #[.bool t183, .int .i64 t184, .int .i64 t185, .int .i64 0, .int .i64 0, .bool false]) ?_ 3 _ rfl; (with_reducible repeat (first | refine blk_drewN ?_ _ | refine blk_drew ?_ | refine blk_alloc ?_ _)); refine blk_put (cs := #[.bool t183, .int .i64 t184, .int .i64 0, .int .i64 0, .int .i64 0, .bool false]) ?_ 2 _ rfl; (with_reducible repeat (first | refine blk_drewN ?_ _ | refine blk_drew ?_ | refine blk_alloc ?_ _)); refine blk_put (cs := #[.bool t183, .int .i64 0, .int .i64 0, .int .i64 0, .int .i64 0, .bool false]) ?_ 1 _ rfl; (with_reducible repeat (first | refine blk_drewN ?_ _ | refine blk_drew ?_ | refine blk_alloc ?_ _)); refine blk_put (cs := #[.bool false, .int .i64 0, .int .i64 0, .int .i64 0, .int .i64 0, .bool false]) ?_ 0 _ rfl; (with_reducible repeat (first | refine blk_drewN ?_ _ | refine blk_drew ?_ | refine blk_alloc ?_ _)); exact BK191.out⟩, ⟨by repeat (first | (with_reducible first | exact HB.out | apply below_alloc | apply pw_below_drewN | apply below_drew1 | refine below_set ?_ GE176.out | refine below_set ?_ GE191.out) | exact HB.out)⟩⟩
                                  · rw [if_neg c25] at H
                                    have c25b0 : (x10_3 == 0) = false := beq_eq_false_iff_ne.mpr c25
                                    have c25b1 : (x10_3 != 0) = true := bne_iff_ne.mpr c25
                                    (first | rw [c25b0] | (simp only [i64_w, i32_w]; rw [c25b0]) | skip)
                                    have H' := Aside0.mk H
                                    clear H
                                    go_wp2
                                    go_meet
                                    case rel => exact ⟨_, (false), (by first | rfl | (simp; done) | (simp [*]; done)), H', ⟨by have := HK1.out; have := HJ3.out; have := HK3.out; have := HJ11.out; have := HJ13.out; first | omega | exact Nat.le_refl _⟩, ⟨by (with_reducible repeat (first | apply Kd.R_alloc | apply Kd.R_drewN | apply Kd.R_drew)); exact Kd.R_mono (Kd.R_far (p := ⟨gb191, 5, none⟩) (Kd.R_far (p := ⟨gb191, 4, none⟩) (Kd.R_far (p := ⟨gb191, 3, none⟩) (Kd.R_far (p := ⟨gb191, 2, none⟩) (Kd.R_far (p := ⟨gb191, 1, none⟩) (Kd.R_far (p := ⟨gb191, 0, none⟩) (Kd.R_types HO_5.out BK191.out (by decide)) (fun _ hk => hk.2) (.bool t183)) (fun _ hk => hk.2) (.int .i64 t184)) (fun _ hk => hk.2) (.int .i64 t185)) (fun _ hk => hk.2) (.int .i64 t186)) (fun _ hk => hk.2) (.int .i64 t187)) (fun _ hk => hk.2) (.bool t188)) (fun _ hk => trivial)⟩, ⟨by (with_reducible repeat (first | refine blk_drewN ?_ _ | refine blk_drew ?_ | refine blk_alloc ?_ _)); refine blk_far ?_ NB176_191.out _; (with_reducible repeat (first | refine blk_drewN ?_ _ | refine blk_drew ?_ | refine blk_alloc ?_ _)); refine blk_far ?_ NB176_191.out _; (with_reducible repeat (first | refine blk_drewN ?_ _ | refine blk_drew ?_ | refine blk_alloc ?_ _)); refine blk_far ?_ NB176_191.out _; (with_reducible repeat (first | refine blk_drewN ?_ _ | refine blk_drew ?_ | refine blk_alloc ?_ _)); refine blk_far ?_ NB176_191.out _; (with_reducible repeat (first | refine blk_drewN ?_ _ | refine blk_drew ?_ | refine blk_alloc ?_ _)); refine blk_far ?_ NB176_191.out _; (with_reducible repeat (first | refine blk_drewN ?_ _ | refine blk_drew ?_ | refine blk_alloc ?_ _)); refine blk_far ?_ NB176_191.out _; (with_reducible repeat (first | refine blk_drewN ?_ _ | refine blk_drew ?_ | refine blk_alloc ?_ _)); exact BK176.out⟩, ⟨by (with_reducible repeat (first | refine blk_drewN ?_ _ | refine blk_drew ?_ | refine blk_alloc ?_ _)); refine blk_put (cs := #[.bool t183, .int .i64 t184, .int .i64 t185, .int .i64 t186, .int .i64 t187, .bool false]) ?_ 5 _ rfl; (with_reducible repeat (first | refine blk_drewN ?_ _ | refine blk_drew ?_ | refine blk_alloc ?_ _)); refine blk_put (cs := #[.bool t183, .int .i64 t184, .int .i64 t185, .int .i64 t186, .int .i64 0, .bool false]) ?_ 4 _ rfl; (with_reducible repeat (first | refine blk_drewN ?_ _ | refine blk_drew ?_ | refine blk_alloc ?_ _)); refine blk_put (cs := #[.bool t183, .int .i64 t184, .int .i64 t185, .int .i64 0, .int .i64 0, .bool false]) ?_ 3 _ rfl; (with_reducible repeat (first | refine blk_drewN ?_ _ | refine blk_drew ?_ | refine blk_alloc ?_ _)); refine blk_put (cs := #[.bool t183, .int .i64 t184, .int .i64 0, .int .i64 0, .int .i64 0, .bool false]) ?_ 2 _ rfl; (with_reducible repeat (first | refine blk_drewN ?_ _ | refine blk_drew ?_ | refine blk_alloc ?_ _)); refine blk_put (cs := #[.bool t183, .int .i64 0, .int .i64 0, .int .i64 0, .int .i64 0, .bool false]) ?_ 1 _ rfl; (with_reducible repeat (first | refine blk_drewN ?_ _ | refine blk_drew ?_ | refine blk_alloc ?_ _)); refine blk_put (cs := #[.bool false, .int .i64 0, .int .i64 0, .int .i64 0, .int .i64 0, .bool false]) ?_ 0 _ rfl; (with_reducible repeat (first | refine blk_drewN ?_ _ | refine blk_drew ?_ | refine blk_alloc ?_ _)); exact BK191.out⟩, ⟨by repeat (first | (with_reducible first | exact HB.out | apply below_alloc | apply pw_below_drewN | apply below_drew1 | refine below_set ?_ GE176.out | refine below_set ?_ GE191.out) | exact HB.out)⟩⟩
                                case rest =>
                                  clear HC19
                                  try clear c1
                                  try clear p1
                                  try clear q1
                                  try clear hx1
                                  try clear c2
                                  try clear p2
                                  try clear c5
                                  try clear c5b0
                                  try clear c6
                                  try clear c7
                                  try clear c7b0
                                  try clear c8
                                  try clear c8b0
                                  try clear c11
                                  try clear c11b0
                                  try clear c13
                                  try clear c15
                                  try clear p17
                                  try clear q17
                                  try clear hx17
                                  try clear c18
                                  try clear c18b0
                                  try clear c18b1
                                  try clear c20
                                  try clear c21
                                  try clear c22
                                  try clear c23
                                  try clear c25
                                  try clear c25b0
                                  try clear c25b1
                                  try clear hcz20_0
                                  try clear hcz20_1
                                  try clear hcz20_2
                                  try clear hcz20_3
                                  try clear hcz20_4
                                  try clear hcz20_5
                                  try clear hcz24_0
                                  try clear hcz24_1
                                  try clear hcz24_2
                                  try clear hcz24_3
                                  try clear hcz24_4
                                  try clear hcz24_5
                                  try clear hcz3_0
                                  try clear hcz3_1
                                  try clear hcz3_2
                                  try clear hcz3_3
                                  try clear hcz3_4
                                  try clear hcz3_5
                                  try clear hfz20_0
                                  try clear hfz20_1
                                  try clear hfz20_2
                                  try clear hfz20_3
                                  try clear hfz20_4
                                  try clear hfz20_5
                                  try clear hfz24_0
                                  try clear hfz24_1
                                  try clear hfz24_2
                                  try clear hfz24_3
                                  try clear hfz24_4
                                  try clear hfz24_5
                                  try clear hfz3_0
                                  try clear hfz3_1
                                  try clear hfz3_2
                                  try clear hfz3_3
                                  try clear hfz3_4
                                  try clear hfz3_5
                                  try clear hx178_0
                                  try clear hx178_1
                                  try clear hx178_2
                                  try clear hx178_3
                                  try clear hx178_4
                                  try clear hx178_5
                                  try clear hx178_6
                                  try clear hx178_7
                                  try clear p1
                                  try clear p178
                                  try clear p2
                                  try clear q1
                                  try clear q178
                                  obtain ⟨kq, x60_18, rfl, HA, HJ18, HO_5, BK176, BK191, HB⟩ := hcut
                                  cases kq with
                                  | zero => exact absurd HA.out (by simp [gimballaw21_MotionWindows.j5])
                                  | succ kj18 =>
                                    have H := HA.out
                                    clear HA
                                    simp only [gimballaw21_MotionWindows.j5] at H
                                    by_cases c26 : x60_18 = true
                                    · subst c26
                                      have H1 : (gimballaw21_MotionWindows.l2 kj18 l0 x4_3 x5_1 x6_3 x7_1 x8_1 ji10 x10_3 t189 0 (wrap64 ((x5_1.length : Int) - 1)) t183 t184 t185 t186 t187 t188) = some r := by rw [if_pos rfl] at H; exact H
                                      clear H
                                      have H := H1
                                      clear H1
                                      have H' := Aside0.mk H
                                      clear H
                                      obtain ⟨Ao27, co27, eo27⟩ := Kd.R_slice HO_5.out
                                      subst eo27
                                      go_wp2
                                      go_loopg [16, 17] kj18 (fun kq v16 v17 w' => ∃ (x16_7 : Int) (x17_7 : Int), v16 = .int .i64 x16_7 ∧ v17 = .int .i64 x17_7 ∧ Aside0 (gimballaw21_MotionWindows.l2 kq l0 x4_3 x5_1 x6_3 x7_1 x8_1 ji10 x10_3 t189 x16_7 x17_7 t183 t184 t185 t186 t187 t188 = some r) ∧ Aside0 (kq ≤ kj18) ∧ Aside0 (Kd.R Kd.bool 4 w' w.heap.size (fun _ => True) (.slice Ao27 x5_1.length co27) x5_1) ∧ Aside0 (w'.heap[gb176]? = some (.cells #[.bool x177000_3, .int .i64 x177001_3, .int .i64 x177002_3, .int .i64 x177003_3, .int .i64 x177004_3, .bool x177005_3] 33 (0, 0))) ∧ Aside0 (w'.heap[gb191]? = some (.cells #[.bool t183, .int .i64 t184, .int .i64 t185, .int .i64 t186, .int .i64 t187, .bool t188] 33 (0, 0))) ∧ Aside0 (Below w.heap.size w w'))
                                      case atStart => exact ⟨(0), (wrap64 ((x5_1.length : Int) - 1)), (by first | rfl | (simp; done) | (simp [*]; done)), (by first | rfl | (simp; done) | (simp [*]; done)), H', ⟨Nat.le_refl _⟩, ⟨by (with_reducible repeat (first | apply Kd.R_alloc | apply Kd.R_drewN | apply Kd.R_drew)); exact HO_5.out⟩, ⟨by (with_reducible repeat (first | refine blk_drewN ?_ _ | refine blk_drew ?_ | refine blk_alloc ?_ _)); exact BK176.out⟩, ⟨by (with_reducible repeat (first | refine blk_drewN ?_ _ | refine blk_drew ?_ | refine blk_alloc ?_ _)); exact BK191.out⟩, ⟨by repeat (first | (with_reducible first | exact HB.out | apply below_alloc | apply pw_below_drewN | apply below_drew1 | refine below_set ?_ GE176.out | refine below_set ?_ GE191.out) | exact HB.out)⟩⟩
                                      case round =>
                                        clear H'
                                        try clear c1
                                        try clear p1
                                        try clear q1
                                        try clear hx1
                                        try clear c2
                                        try clear p2
                                        try clear c5
                                        try clear c5b0
                                        try clear c6
                                        try clear p6
                                        try clear c7
                                        try clear c7b0
                                        try clear c8
                                        try clear c8b0
                                        try clear c11
                                        try clear c11b0
                                        try clear c13
                                        try clear c15
                                        try clear p17
                                        try clear q17
                                        try clear hx17
                                        try clear c18
                                        try clear c18b0
                                        try clear c18b1
                                        try clear c20
                                        try clear c21
                                        try clear c22
                                        try clear c23
                                        try clear c25
                                        try clear c25b0
                                        try clear c25b1
                                        try clear c26
                                        try clear hcz20_0
                                        try clear hcz20_1
                                        try clear hcz20_2
                                        try clear hcz20_3
                                        try clear hcz20_4
                                        try clear hcz20_5
                                        try clear hcz24_0
                                        try clear hcz24_1
                                        try clear hcz24_2
                                        try clear hcz24_3
                                        try clear hcz24_4
                                        try clear hcz24_5
                                        try clear hcz3_0
                                        try clear hcz3_1
                                        try clear hcz3_2
                                        try clear hcz3_3
                                        try clear hcz3_4
                                        try clear hcz3_5
                                        try clear hfz20_0
                                        try clear hfz20_1
                                        try clear hfz20_2
                                        try clear hfz20_3
                                        try clear hfz20_4
                                        try clear hfz20_5
                                        try clear hfz24_0
                                        try clear hfz24_1
                                        try clear hfz24_2
                                        try clear hfz24_3
                                        try clear hfz24_4
                                        try clear hfz24_5
                                        try clear hfz3_0
                                        try clear hfz3_1
                                        try clear hfz3_2
                                        try clear hfz3_3
                                        try clear hfz3_4
                                        try clear hfz3_5
                                        try clear hx178_0
                                        try clear hx178_1
                                        try clear hx178_2
                                        try clear hx178_3
                                        try clear hx178_4
                                        try clear hx178_5
                                        try clear hx178_6
                                        try clear hx178_7
                                        try clear p1
                                        try clear p17
                                        try clear p178
                                        try clear p2
                                        try clear q1
                                        try clear q17
                                        try clear q178
                                        obtain ⟨x16_7, x17_7, rfl, rfl, HA, HK7, HO_5, BK176, BK191, HB⟩ := hrel
                                        cases gk with
                                        | zero => exact absurd HA.out (by simp [gimballaw21_MotionWindows.l2])
                                        | succ k7 =>
                                          have H := HA.out
                                          clear HA
                                          simp only [gimballaw21_MotionWindows.l2] at H
                                          have HC28 := Aside0.mk H
                                          clear H
                                          go_upto_region 23 with (fail)
                                          go_cut [72] (fun v72 wc => ∃ (kq : Nat) (x72_27 : Bool), v72 = .bool x72_27 ∧ Aside0 (gimballaw21_MotionWindows.j7 kq l0 x4_3 x5_1 x6_3 x7_1 x8_1 ji10 x10_3 t189 x16_7 x17_7 x72_27 t183 t184 t185 t186 t187 t188 = some r) ∧ Aside0 (kq ≤ k7) ∧ Aside0 (Kd.R Kd.bool 4 wc w.heap.size (fun _ => True) (.slice Ao27 x5_1.length co27) x5_1) ∧ Aside0 (wc.heap[gb176]? = some (.cells #[.bool x177000_3, .int .i64 x177001_3, .int .i64 x177002_3, .int .i64 x177003_3, .int .i64 x177004_3, .bool x177005_3] 33 (0, 0))) ∧ Aside0 (wc.heap[gb191]? = some (.cells #[.bool t183, .int .i64 t184, .int .i64 t185, .int .i64 t186, .int .i64 t187, .bool t188] 33 (0, 0))) ∧ Aside0 (Below w.heap.size w wc))
                                          case first =>
                                            have H := HC28.out
                                            clear HC28
                                            by_cases c29 : x17_7 ≥ 0
                                            · rw [if_pos c29] at H
                                              have c29b0 : decide (0 ≤ x17_7) = true := decide_eq_true c29
                                              clear c29
                                              (first | rw [c29b0] | (simp only [i64_w, i32_w]; rw [c29b0]) | skip)
                                              have H' := Aside0.mk H
                                              clear H
                                              go_wp2
                                              go_meet
                                              case rel => exact ⟨_, (decide (x17_7 ≥ (wrap64 ((x5_1.length : Int) - 8)))), (by first | rfl | (simp; done) | (simp [*]; done)), H', ⟨by have := HK1.out; have := HJ3.out; have := HK3.out; have := HJ11.out; have := HJ13.out; have := HJ18.out; have := HK7.out; first | omega | exact Nat.le_refl _⟩, ⟨by (with_reducible repeat (first | apply Kd.R_alloc | apply Kd.R_drewN | apply Kd.R_drew)); exact HO_5.out⟩, ⟨by (with_reducible repeat (first | refine blk_drewN ?_ _ | refine blk_drew ?_ | refine blk_alloc ?_ _)); exact BK176.out⟩, ⟨by (with_reducible repeat (first | refine blk_drewN ?_ _ | refine blk_drew ?_ | refine blk_alloc ?_ _)); exact BK191.out⟩, ⟨by repeat (first | (with_reducible first | exact HB.out | apply below_alloc | apply pw_below_drewN | apply below_drew1 | refine below_set ?_ GE176.out | refine below_set ?_ GE191.out) | exact HB.out)⟩⟩
                                            · rw [if_neg c29] at H
                                              have c29b0 : decide (0 ≤ x17_7) = false := decide_eq_false c29
                                              clear c29
                                              (first | rw [c29b0] | (simp only [i64_w, i32_w]; rw [c29b0]) | skip)
                                              have H' := Aside0.mk H
                                              clear H
                                              go_wp2
                                              go_meet
                                              case rel => exact ⟨_, (false), (by first | rfl | (simp; done) | (simp [*]; done)), H', ⟨by have := HK1.out; have := HJ3.out; have := HK3.out; have := HJ11.out; have := HJ13.out; have := HJ18.out; have := HK7.out; first | omega | exact Nat.le_refl _⟩, ⟨by (with_reducible repeat (first | apply Kd.R_alloc | apply Kd.R_drewN | apply Kd.R_drew)); exact HO_5.out⟩, ⟨by (with_reducible repeat (first | refine blk_drewN ?_ _ | refine blk_drew ?_ | refine blk_alloc ?_ _)); exact BK176.out⟩, ⟨by (with_reducible repeat (first | refine blk_drewN ?_ _ | refine blk_drew ?_ | refine blk_alloc ?_ _)); exact BK191.out⟩, ⟨by repeat (first | (with_reducible first | exact HB.out | apply below_alloc | apply pw_below_drewN | apply below_drew1 | refine below_set ?_ GE176.out | refine below_set ?_ GE191.out) | exact HB.out)⟩⟩
                                          case rest =>
                                            clear HC28
                                            try clear c1
                                            try clear p1
                                            try clear q1
                                            try clear hx1
                                            try clear c2
                                            try clear p2
                                            try clear c5
                                            try clear c5b0
                                            try clear c6
                                            try clear p6
                                            try clear c7
                                            try clear c7b0
                                            try clear c8
                                            try clear c8b0
                                            try clear c11
                                            try clear c11b0
                                            try clear c13
                                            try clear c15
                                            try clear p17
                                            try clear q17
                                            try clear hx17
                                            try clear c18
                                            try clear c18b0
                                            try clear c18b1
                                            try clear c20
                                            try clear c21
                                            try clear c22
                                            try clear c23
                                            try clear c25
                                            try clear c25b0
                                            try clear c25b1
                                            try clear c26
                                            try clear c29
                                            try clear c29b0
                                            try clear hcz20_0
                                            try clear hcz20_1
                                            try clear hcz20_2
                                            try clear hcz20_3
                                            try clear hcz20_4
                                            try clear hcz20_5
                                            try clear hcz24_0
                                            try clear hcz24_1
                                            try clear hcz24_2
                                            try clear hcz24_3
                                            try clear hcz24_4
                                            try clear hcz24_5
                                            try clear hcz3_0
                                            try clear hcz3_1
                                            try clear hcz3_2
                                            try clear hcz3_3
                                            try clear hcz3_4
                                            try clear hcz3_5
                                            try clear hfz20_0
                                            try clear hfz20_1
                                            try clear hfz20_2
                                            try clear hfz20_3
                                            try clear hfz20_4
                                            try clear hfz20_5
                                            try clear hfz24_0
                                            try clear hfz24_1
                                            try clear hfz24_2
                                            try clear hfz24_3
                                            try clear hfz24_4
                                            try clear hfz24_5
                                            try clear hfz3_0
                                            try clear hfz3_1
                                            try clear hfz3_2
                                            try clear hfz3_3
                                            try clear hfz3_4
                                            try clear hfz3_5
                                            try clear hx178_0
                                            try clear hx178_1
                                            try clear hx178_2
                                            try clear hx178_3
                                            try clear hx178_4
                                            try clear hx178_5
                                            try clear hx178_6
                                            try clear hx178_7
                                            try clear p1
                                            try clear p17
                                            try clear p178
                                            try clear p2
                                            try clear p6
                                            try clear q1
                                            try clear q17
                                            try clear q178
                                            obtain ⟨kq, x72_27, rfl, HA, HJ27, HO_5, BK176, BK191, HB⟩ := hcut
                                            cases kq with
                                            | zero => exact absurd HA.out (by simp [gimballaw21_MotionWindows.j7])
                                            | succ kj27 =>
                                              have H := HA.out
                                              clear HA
                                              simp only [gimballaw21_MotionWindows.j7] at H
                                              by_cases c30 : x72_27 = true
                                              · subst c30
                                                have H1 : (if 0 ≤ x17_7 then (if x17_7 < (x5_1.length : Int) then (if rdOf false x5_1 x17_7 = true then (gimballaw21_MotionWindows.l2 kj27 l0 x4_3 x5_1 x6_3 x7_1 x8_1 ji10 x10_3 t189 (wrap64 (x16_7 + 1)) (wrap64 (x17_7 - 1)) t183 t184 t185 t186 t187 t188) else (gimballaw21_MotionWindows.l2 kj27 l0 x4_3 x5_1 x6_3 x7_1 x8_1 ji10 x10_3 t189 x16_7 (wrap64 (x17_7 - 1)) t183 t184 t185 t186 t187 t188)) else (none)) else (none)) = some r := by rw [if_pos rfl] at H; exact H
                                                clear H
                                                have H := H1
                                                clear H1
                                                by_cases c31 : 0 ≤ x17_7
                                                · rw [if_pos c31] at H
                                                  have c31b0 : decide (0 ≤ x17_7) = true := decide_eq_true c31
                                                  clear c31
                                                  by_cases c32 : x17_7 < (x5_1.length : Int)
                                                  · rw [if_pos c32] at H
                                                    have c32b0 : decide (x17_7 < (x5_1.length : Int)) = true := decide_eq_true c32
                                                    clear c32
                                                    obtain ⟨bq33, hbq33⟩ : ∃ b_ : Bool, b_ = (rdOf false x5_1 x17_7) := ⟨_, rfl⟩
                                                    replace H : (if bq33 = true then (gimballaw21_MotionWindows.l2 kj27 l0 x4_3 x5_1 x6_3 x7_1 x8_1 ji10 x10_3 t189 (wrap64 (x16_7 + 1)) (wrap64 (x17_7 - 1)) t183 t184 t185 t186 t187 t188) else (gimballaw21_MotionWindows.l2 kj27 l0 x4_3 x5_1 x6_3 x7_1 x8_1 ji10 x10_3 t189 x16_7 (wrap64 (x17_7 - 1)) t183 t184 t185 t186 t187 t188)) = some r := by rw [← hbq33] at H; exact H
                                                    have Nbq33 := Aside0.mk hbq33
                                                    clear hbq33
                                                    by_cases c34 : bq33 = true
                                                    · subst c34
                                                      have H1 : (gimballaw21_MotionWindows.l2 kj27 l0 x4_3 x5_1 x6_3 x7_1 x8_1 ji10 x10_3 t189 (wrap64 (x16_7 + 1)) (wrap64 (x17_7 - 1)) t183 t184 t185 t186 t187 t188) = some r := by rw [if_pos rfl] at H; exact H
                                                      clear H
                                                      have H := H1
                                                      clear H1
                                                      have H' := Aside0.mk H
                                                      clear H
                                                      have p193 : 0 ≤ (x17_7 : Int) := of_decide_eq_true (by first | (with_reducible assumption) | assumption)
                                                      have q193 : x17_7 < (x5_1.length : Int) := of_decide_eq_true (by first | (with_reducible assumption) | assumption)
                                                      obtain ⟨ad193, e193, hx193_0⟩ := Kd.at_bool (Kd.R_reads' HO_5.out).2.2 x17_7 p193 q193
                                                      (try rw [← Nbq33.out] at hx193_0)
                                                      cases e193
                                                      replace p193 := eq_true p193
                                                      replace q193 := eq_true q193
                                                      go_wp2
                                                      go_roundg kj27
                                                      case measure => have := HK1.out; have := HJ3.out; have := HK3.out; have := HJ11.out; have := HJ13.out; have := HJ18.out; have := HK7.out; have := HJ27.out; omega
                                                      case rel => exact ⟨(wrap64 (x16_7 + 1)), (wrap64 (x17_7 - 1)), (by first | rfl | (simp; done) | (simp [*]; done)), (by first | rfl | (simp; done) | (simp [*]; done)), H', ⟨by have := HK1.out; have := HJ3.out; have := HK3.out; have := HJ11.out; have := HJ13.out; have := HJ18.out; have := HK7.out; have := HJ27.out; omega⟩, ⟨by (with_reducible repeat (first | apply Kd.R_alloc | apply Kd.R_drewN | apply Kd.R_drew)); exact HO_5.out⟩, ⟨by (with_reducible repeat (first | refine blk_drewN ?_ _ | refine blk_drew ?_ | refine blk_alloc ?_ _)); exact BK176.out⟩, ⟨by (with_reducible repeat (first | refine blk_drewN ?_ _ | refine blk_drew ?_ | refine blk_alloc ?_ _)); exact BK191.out⟩, ⟨by repeat (first | (with_reducible first | exact HB.out | apply below_alloc | apply pw_below_drewN | apply below_drew1 | refine below_set ?_ GE176.out | refine below_set ?_ GE191.out) | exact HB.out)⟩⟩
                                                    · replace c34 := Bool.eq_false_iff.mpr c34
                                                      subst c34
                                                      have H1 : (gimballaw21_MotionWindows.l2 kj27 l0 x4_3 x5_1 x6_3 x7_1 x8_1 ji10 x10_3 t189 x16_7 (wrap64 (x17_7 - 1)) t183 t184 t185 t186 t187 t188) = some r := by rw [if_neg (show ¬ (false = true) by decide)] at H; exact H
                                                      clear H
                                                      have H := H1
                                                      clear H1
                                                      have H' := Aside0.mk H
                                                      clear H
                                                      have p193 : 0 ≤ (x17_7 : Int) := of_decide_eq_true (by first | (with_reducible assumption) | assumption)
                                                      have q193 : x17_7 < (x5_1.length : Int) := of_decide_eq_true (by first | (with_reducible assumption) | assumption)
                                                      obtain ⟨ad193, e193, hx193_0⟩ := Kd.at_bool (Kd.R_reads' HO_5.out).2.2 x17_7 p193 q193
                                                      (try rw [← Nbq33.out] at hx193_0)
                                                      cases e193
                                                      replace p193 := eq_true p193
                                                      replace q193 := eq_true q193
                                                      go_wp2
                                                      go_roundg kj27
                                                      case measure => have := HK1.out; have := HJ3.out; have := HK3.out; have := HJ11.out; have := HJ13.out; have := HJ18.out; have := HK7.out; have := HJ27.out; omega
                                                      case rel => exact ⟨(x16_7), (wrap64 (x17_7 - 1)), (by first | rfl | (simp; done) | (simp [*]; done)), (by first | rfl | (simp; done) | (simp [*]; done)), H', ⟨by have := HK1.out; have := HJ3.out; have := HK3.out; have := HJ11.out; have := HJ13.out; have := HJ18.out; have := HK7.out; have := HJ27.out; omega⟩, ⟨by (with_reducible repeat (first | apply Kd.R_alloc | apply Kd.R_drewN | apply Kd.R_drew)); exact HO_5.out⟩, ⟨by (with_reducible repeat (first | refine blk_drewN ?_ _ | refine blk_drew ?_ | refine blk_alloc ?_ _)); exact BK176.out⟩, ⟨by (with_reducible repeat (first | refine blk_drewN ?_ _ | refine blk_drew ?_ | refine blk_alloc ?_ _)); exact BK191.out⟩, ⟨by repeat (first | (with_reducible first | exact HB.out | apply below_alloc | apply pw_below_drewN | apply below_drew1 | refine below_set ?_ GE176.out | refine below_set ?_ GE191.out) | exact HB.out)⟩⟩
                                                  · rw [if_neg c32] at H
                                                    exact absurd H (by simp)
                                                · rw [if_neg c31] at H
                                                  exact absurd H (by simp)
                                              · replace c30 := Bool.eq_false_iff.mpr c30
                                                subst c30
                                                have H1 : (if x16_7 ≥ 5 then (if x6_3 = true then (if x16_7 > 0 then (if (t189 != (!x6_3)) = true then (some false) else (gimballaw21_MotionWindows.l1 kj27 l0 (wrap64 (x4_3 + 500)) x5_1 true x7_1 x8_1 ji10 (wrap64 (x10_3 + 1)) t183 t184 t185 t186 t187 t188)) else (if (t189 != (!x6_3)) = true then (some false) else (gimballaw21_MotionWindows.l1 kj27 l0 (wrap64 (x4_3 + 500)) x5_1 (!x6_3) x7_1 x8_1 ji10 (wrap64 (x10_3 + 1)) t183 t184 t185 t186 t187 t188))) else (if (t189 != (!x6_3)) = true then (some false) else (gimballaw21_MotionWindows.l1 kj27 l0 (wrap64 (x4_3 + 500)) x5_1 (!x6_3) x7_1 x8_1 ji10 (wrap64 (x10_3 + 1)) t183 t184 t185 t186 t187 t188))) else (if x6_3 = true then (if x16_7 > 0 then (if (t189 != false) = true then (some false) else (gimballaw21_MotionWindows.l1 kj27 l0 (wrap64 (x4_3 + 500)) x5_1 true x7_1 x8_1 ji10 (wrap64 (x10_3 + 1)) t183 t184 t185 t186 t187 t188)) else (if (t189 != false) = true then (some false) else (gimballaw21_MotionWindows.l1 kj27 l0 (wrap64 (x4_3 + 500)) x5_1 false x7_1 x8_1 ji10 (wrap64 (x10_3 + 1)) t183 t184 t185 t186 t187 t188))) else (if (t189 != false) = true then (some false) else (gimballaw21_MotionWindows.l1 kj27 l0 (wrap64 (x4_3 + 500)) x5_1 false x7_1 x8_1 ji10 (wrap64 (x10_3 + 1)) t183 t184 t185 t186 t187 t188)))) = some r := by rw [if_neg (show ¬ (false = true) by decide)] at H; exact H
                                                clear H
                                                have H := H1
                                                clear H1
                                                by_cases c35 : x16_7 ≥ 5
                                                · rw [if_pos c35] at H
                                                  have c35b0 : decide (5 ≤ x16_7) = true := decide_eq_true c35
                                                  clear c35
                                                  by_cases c36 : x6_3 = true
                                                  · subst c36
                                                    have H1 : (if x16_7 > 0 then (if (t189 != (!true)) = true then (some false) else (gimballaw21_MotionWindows.l1 kj27 l0 (wrap64 (x4_3 + 500)) x5_1 true x7_1 x8_1 ji10 (wrap64 (x10_3 + 1)) t183 t184 t185 t186 t187 t188)) else (if (t189 != (!true)) = true then (some false) else (gimballaw21_MotionWindows.l1 kj27 l0 (wrap64 (x4_3 + 500)) x5_1 (!true) x7_1 x8_1 ji10 (wrap64 (x10_3 + 1)) t183 t184 t185 t186 t187 t188))) = some r := by rw [if_pos rfl] at H; exact H
                                                    clear H
                                                    have H := H1
                                                    clear H1
                                                    by_cases c37 : x16_7 > 0
                                                    · rw [if_pos c37] at H
                                                      have c37b0 : decide (0 < x16_7) = true := decide_eq_true c37
                                                      clear c37
                                                      by_cases c38 : (t189 != (!true)) = true
                                                      · rw [if_pos c38] at H
                                                        have c38b0 : (t189 != (!true)) = true := c38
                                                        (try (have c38b1 : decide (t189 = (!true)) = false := by simpa using c38))
                                                        (try (have c38b2 : (t189 == (!true)) = false := by simpa using c38))
                                                        (try (have c38b3 : ¬ (t189 = (!true)) := by simpa using c38))
                                                        (try (have c38b4 : t189 = true := by simpa using c38))
                                                        clear c38
                                                        obtain rfl := Option.some.inj H
                                                        go_wp2
                                                        go_ret
                                                        exact ⟨by first | rfl | (simp [errW_none, errW_some] <;> rfl) | (simp only [← hji10]; first | rfl | (simp [errW_none, errW_some] <;> rfl)) | (simp [*, errW_none, errW_some] <;> rfl), by repeat (first | (with_reducible first | exact HB.out | apply below_alloc | apply pw_below_drewN | apply below_drew1 | refine below_set ?_ GE176.out | refine below_set ?_ GE191.out) | exact HB.out)⟩
                                                      · rw [if_neg c38] at H
                                                        have c38b0 : (t189 != (!true)) = false := by simpa using c38
                                                        (try (have c38b1 : decide (t189 = (!true)) = true := by simpa using c38))
                                                        (try (have c38b2 : (t189 == (!true)) = true := by simpa using c38))
                                                        (try (have c38b3 : t189 = false := by simpa using c38))
                                                        clear c38
                                                        have H' := Aside0.mk H
                                                        clear H
                                                        have hnb39 := NB191_176.out
                                                        have hnc39 := NB176_191.out
                                                        have hcz40_0 : wc.cell? ⟨gb191, 0, none⟩ = some (.bool t183) := (blk_cell BK191.out 0).trans rfl
                                                        have hcz40_1 : wc.cell? ⟨gb191, 1, none⟩ = some (.int .i64 t184) := (blk_cell BK191.out 1).trans rfl
                                                        have hcz40_2 : wc.cell? ⟨gb191, 2, none⟩ = some (.int .i64 t185) := (blk_cell BK191.out 2).trans rfl
                                                        have hcz40_3 : wc.cell? ⟨gb191, 3, none⟩ = some (.int .i64 t186) := (blk_cell BK191.out 3).trans rfl
                                                        have hcz40_4 : wc.cell? ⟨gb191, 4, none⟩ = some (.int .i64 t187) := (blk_cell BK191.out 4).trans rfl
                                                        have hcz40_5 : wc.cell? ⟨gb191, 5, none⟩ = some (.bool t188) := (blk_cell BK191.out 5).trans rfl
                                                        have hfz40_0 := blk_frozen BK191.out 0
                                                        have hfz40_1 := blk_frozen BK191.out 1
                                                        have hfz40_2 := blk_frozen BK191.out 2
                                                        have hfz40_3 := blk_frozen BK191.out 3
                                                        have hfz40_4 := blk_frozen BK191.out 4
                                                        have hfz40_5 := blk_frozen BK191.out 5
                                                        have hcz41_0 : wc.cell? ⟨gb176, 0, none⟩ = some (.bool x177000_3) := (blk_cell BK176.out 0).trans rfl
                                                        have hcz41_1 : wc.cell? ⟨gb176, 1, none⟩ = some (.int .i64 x177001_3) := (blk_cell BK176.out 1).trans rfl
                                                        have hcz41_2 : wc.cell? ⟨gb176, 2, none⟩ = some (.int .i64 x177002_3) := (blk_cell BK176.out 2).trans rfl
                                                        have hcz41_3 : wc.cell? ⟨gb176, 3, none⟩ = some (.int .i64 x177003_3) := (blk_cell BK176.out 3).trans rfl
                                                        have hcz41_4 : wc.cell? ⟨gb176, 4, none⟩ = some (.int .i64 x177004_3) := (blk_cell BK176.out 4).trans rfl
                                                        have hcz41_5 : wc.cell? ⟨gb176, 5, none⟩ = some (.bool x177005_3) := (blk_cell BK176.out 5).trans rfl
                                                        have hfz41_0 := blk_frozen BK176.out 0
                                                        have hfz41_1 := blk_frozen BK176.out 1
                                                        have hfz41_2 := blk_frozen BK176.out 2
                                                        have hfz41_3 := blk_frozen BK176.out 3
                                                        have hfz41_4 := blk_frozen BK176.out 4
                                                        have hfz41_5 := blk_frozen BK176.out 5
                                                        go_wp2
                                                        go_roundg kj27
                                                        case measure => have := HK1.out; have := HJ3.out; have := HK3.out; have := HJ11.out; have := HJ13.out; have := HJ18.out; have := HK7.out; have := HJ27.out; omega
                                                        case rel => exact ⟨(wrap64 (x4_3 + 500)), (true), (wrap64 (x10_3 + 1)), (t183), (t184), (t185), (t186), (t187), (t188), (by first | rfl | (simp; done) | (simp [*]; done)), (by first | rfl | (simp; done) | (simp [*]; done)), (by first | rfl | (simp; done) | (simp [*]; done)), H', ⟨by have := HK1.out; have := HJ3.out; have := HK3.out; have := HJ11.out; have := HJ13.out; have := HJ18.out; have := HK7.out; have := HJ27.out; omega⟩, ⟨by (with_reducible repeat (first | apply Kd.R_alloc | apply Kd.R_drewN | apply Kd.R_drew)); exact Kd.R_mono (Kd.R_far (p := ⟨gb176, 5, none⟩) (Kd.R_far (p := ⟨gb176, 4, none⟩) (Kd.R_far (p := ⟨gb176, 3, none⟩) (Kd.R_far (p := ⟨gb176, 2, none⟩) (Kd.R_far (p := ⟨gb176, 1, none⟩) (Kd.R_far (p := ⟨gb176, 0, none⟩) (Kd.R_types HO_5.out BK176.out (by decide)) (fun _ hk => hk.2) (.bool t183)) (fun _ hk => hk.2) (.int .i64 t184)) (fun _ hk => hk.2) (.int .i64 t185)) (fun _ hk => hk.2) (.int .i64 t186)) (fun _ hk => hk.2) (.int .i64 t187)) (fun _ hk => hk.2) (.bool t188)) (fun _ hk => trivial)⟩, ⟨by (with_reducible repeat (first | refine blk_drewN ?_ _ | refine blk_drew ?_ | refine blk_alloc ?_ _)); refine blk_put (cs := #[.bool t183, .int .i64 t184, .int .i64 t185, .int .i64 t186, .int .i64 t187, .bool x177005_3]) ?_ 5 _ rfl; (with_reducible repeat (first | refine blk_drewN ?_ _ | refine blk_drew ?_ | refine blk_alloc ?_ _)); refine blk_put (cs := #[.bool t183, .int .i64 t184, .int .i64 t185, .int .i64 t186, .int .i64 x177004_3, .bool x177005_3]) ?_ 4 _ rfl; (with_reducible repeat (first | refine blk_drewN ?_ _ | refine blk_drew ?_ | refine blk_alloc ?_ _)); refine blk_put (cs := #[.bool t183, .int .i64 t184, .int .i64 t185, .int .i64 x177003_3, .int .i64 x177004_3, .bool x177005_3]) ?_ 3 _ rfl; (with_reducible repeat (first | refine blk_drewN ?_ _ | refine blk_drew ?_ | refine blk_alloc ?_ _)); refine blk_put (cs := #[.bool t183, .int .i64 t184, .int .i64 x177002_3, .int .i64 x177003_3, .int .i64 x177004_3, .bool x177005_3]) ?_ 2 _ rfl; (with_reducible repeat (first | refine blk_drewN ?_ _ | refine blk_drew ?_ | refine blk_alloc ?_ _)); refine blk_put (cs := #[.bool t183, .int .i64 x177001_3, .int .i64 x177002_3, .int .i64 x177003_3, .int .i64 x177004_3, .bool x177005_3]) ?_ 1 _ rfl; (with_reducible repeat (first | refine blk_drewN ?_ _ | refine blk_drew ?_ | refine blk_alloc ?_ _)); refine blk_put (cs := #[.bool x177000_3, .int .i64 x177001_3, .int .i64 x177002_3, .int .i64 x177003_3, .int .i64 x177004_3, .bool x177005_3]) ?_ 0 _ rfl; (with_reducible repeat (first | refine blk_drewN ?_ _ | refine blk_drew ?_ | refine blk_alloc ?_ _)); exact BK176.out⟩, ⟨by repeat (first | (with_reducible first | exact HB.out | apply below_alloc | apply pw_below_drewN | apply below_drew1 | refine below_set ?_ GE176.out | refine below_set ?_ GE191.out) | exact HB.out)⟩⟩
                                                    · rw [if_neg c37] at H
                                                      have c37b0 : decide (0 < x16_7) = false := decide_eq_false c37
                                                      clear c37
                                                      by_cases c42 : (t189 != (!true)) = true
                                                      · rw [if_pos c42] at H
                                                        have c42b0 : (t189 != (!true)) = true := c42
                                                        (try (have c42b1 : decide (t189 = (!true)) = false := by simpa using c42))
                                                        (try (have c42b2 : (t189 == (!true)) = false := by simpa using c42))
                                                        (try (have c42b3 : ¬ (t189 = (!true)) := by simpa using c42))
                                                        (try (have c42b4 : t189 = true := by simpa using c42))
                                                        clear c42
                                                        obtain rfl := Option.some.inj H
                                                        go_wp2
                                                        go_ret
                                                        exact ⟨by first | rfl | (simp [errW_none, errW_some] <;> rfl) | (simp only [← hji10]; first | rfl | (simp [errW_none, errW_some] <;> rfl)) | (simp [*, errW_none, errW_some] <;> rfl), by repeat (first | (with_reducible first | exact HB.out | apply below_alloc | apply pw_below_drewN | apply below_drew1 | refine below_set ?_ GE176.out | refine below_set ?_ GE191.out) | exact HB.out)⟩
                                                      · rw [if_neg c42] at H
                                                        have c42b0 : (t189 != (!true)) = false := by simpa using c42
                                                        (try (have c42b1 : decide (t189 = (!true)) = true := by simpa using c42))
                                                        (try (have c42b2 : (t189 == (!true)) = true := by simpa using c42))
                                                        (try (have c42b3 : t189 = false := by simpa using c42))
                                                        clear c42
                                                        have H' := Aside0.mk H
                                                        clear H
                                                        have hnb43 := NB191_176.out
                                                        have hnc43 := NB176_191.out
                                                        have hcz44_0 : wc.cell? ⟨gb191, 0, none⟩ = some (.bool t183) := (blk_cell BK191.out 0).trans rfl
                                                        have hcz44_1 : wc.cell? ⟨gb191, 1, none⟩ = some (.int .i64 t184) := (blk_cell BK191.out 1).trans rfl
                                                        have hcz44_2 : wc.cell? ⟨gb191, 2, none⟩ = some (.int .i64 t185) := (blk_cell BK191.out 2).trans rfl
                                                        have hcz44_3 : wc.cell? ⟨gb191, 3, none⟩ = some (.int .i64 t186) := (blk_cell BK191.out 3).trans rfl
                                                        have hcz44_4 : wc.cell? ⟨gb191, 4, none⟩ = some (.int .i64 t187) := (blk_cell BK191.out 4).trans rfl
                                                        have hcz44_5 : wc.cell? ⟨gb191, 5, none⟩ = some (.bool t188) := (blk_cell BK191.out 5).trans rfl
                                                        have hfz44_0 := blk_frozen BK191.out 0
                                                        have hfz44_1 := blk_frozen BK191.out 1
                                                        have hfz44_2 := blk_frozen BK191.out 2
                                                        have hfz44_3 := blk_frozen BK191.out 3
                                                        have hfz44_4 := blk_frozen BK191.out 4
                                                        have hfz44_5 := blk_frozen BK191.out 5
                                                        have hcz45_0 : wc.cell? ⟨gb176, 0, none⟩ = some (.bool x177000_3) := (blk_cell BK176.out 0).trans rfl
                                                        have hcz45_1 : wc.cell? ⟨gb176, 1, none⟩ = some (.int .i64 x177001_3) := (blk_cell BK176.out 1).trans rfl
                                                        have hcz45_2 : wc.cell? ⟨gb176, 2, none⟩ = some (.int .i64 x177002_3) := (blk_cell BK176.out 2).trans rfl
                                                        have hcz45_3 : wc.cell? ⟨gb176, 3, none⟩ = some (.int .i64 x177003_3) := (blk_cell BK176.out 3).trans rfl
                                                        have hcz45_4 : wc.cell? ⟨gb176, 4, none⟩ = some (.int .i64 x177004_3) := (blk_cell BK176.out 4).trans rfl
                                                        have hcz45_5 : wc.cell? ⟨gb176, 5, none⟩ = some (.bool x177005_3) := (blk_cell BK176.out 5).trans rfl
                                                        have hfz45_0 := blk_frozen BK176.out 0
                                                        have hfz45_1 := blk_frozen BK176.out 1
                                                        have hfz45_2 := blk_frozen BK176.out 2
                                                        have hfz45_3 := blk_frozen BK176.out 3
                                                        have hfz45_4 := blk_frozen BK176.out 4
                                                        have hfz45_5 := blk_frozen BK176.out 5
                                                        go_wp2
                                                        go_roundg kj27
                                                        case measure => have := HK1.out; have := HJ3.out; have := HK3.out; have := HJ11.out; have := HJ13.out; have := HJ18.out; have := HK7.out; have := HJ27.out; omega
                                                        case rel => exact ⟨(wrap64 (x4_3 + 500)), (!true), (wrap64 (x10_3 + 1)), (t183), (t184), (t185), (t186), (t187), (t188), (by first | rfl | (simp; done) | (simp [*]; done)), (by first | rfl | (simp; done) | (simp [*]; done)), (by first | rfl | (simp; done) | (simp [*]; done)), H', ⟨by have := HK1.out; have := HJ3.out; have := HK3.out; have := HJ11.out; have := HJ13.out; have := HJ18.out; have := HK7.out; have := HJ27.out; omega⟩, ⟨by (with_reducible repeat (first | apply Kd.R_alloc | apply Kd.R_drewN | apply Kd.R_drew)); exact Kd.R_mono (Kd.R_far (p := ⟨gb176, 5, none⟩) (Kd.R_far (p := ⟨gb176, 4, none⟩) (Kd.R_far (p := ⟨gb176, 3, none⟩) (Kd.R_far (p := ⟨gb176, 2, none⟩) (Kd.R_far (p := ⟨gb176, 1, none⟩) (Kd.R_far (p := ⟨gb176, 0, none⟩) (Kd.R_types HO_5.out BK176.out (by decide)) (fun _ hk => hk.2) (.bool t183)) (fun _ hk => hk.2) (.int .i64 t184)) (fun _ hk => hk.2) (.int .i64 t185)) (fun _ hk => hk.2) (.int .i64 t186)) (fun _ hk => hk.2) (.int .i64 t187)) (fun _ hk => hk.2) (.bool t188)) (fun _ hk => trivial)⟩, ⟨by (with_reducible repeat (first | refine blk_drewN ?_ _ | refine blk_drew ?_ | refine blk_alloc ?_ _)); refine blk_put (cs := #[.bool t183, .int .i64 t184, .int .i64 t185, .int .i64 t186, .int .i64 t187, .bool x177005_3]) ?_ 5 _ rfl; (with_reducible repeat (first | refine blk_drewN ?_ _ | refine blk_drew ?_ | refine blk_alloc ?_ _)); refine blk_put (cs := #[.bool t183, .int .i64 t184, .int .i64 t185, .int .i64 t186, .int .i64 x177004_3, .bool x177005_3]) ?_ 4 _ rfl; (with_reducible repeat (first | refine blk_drewN ?_ _ | refine blk_drew ?_ | refine blk_alloc ?_ _)); refine blk_put (cs := #[.bool t183, .int .i64 t184, .int .i64 t185, .int .i64 x177003_3, .int .i64 x177004_3, .bool x177005_3]) ?_ 3 _ rfl; (with_reducible repeat (first | refine blk_drewN ?_ _ | refine blk_drew ?_ | refine blk_alloc ?_ _)); refine blk_put (cs := #[.bool t183, .int .i64 t184, .int .i64 x177002_3, .int .i64 x177003_3, .int .i64 x177004_3, .bool x177005_3]) ?_ 2 _ rfl; (with_reducible repeat (first | refine blk_drewN ?_ _ | refine blk_drew ?_ | refine blk_alloc ?_ _)); refine blk_put (cs := #[.bool t183, .int .i64 x177001_3, .int .i64 x177002_3, .int .i64 x177003_3, .int .i64 x177004_3, .bool x177005_3]) ?_ 1 _ rfl; (with_reducible repeat (first | refine blk_drewN ?_ _ | refine blk_drew ?_ | refine blk_alloc ?_ _)); refine blk_put (cs := #[.bool x177000_3, .int .i64 x177001_3, .int .i64 x177002_3, .int .i64 x177003_3, .int .i64 x177004_3, .bool x177005_3]) ?_ 0 _ rfl; (with_reducible repeat (first | refine blk_drewN ?_ _ | refine blk_drew ?_ | refine blk_alloc ?_ _)); exact BK176.out⟩, ⟨by repeat (first | (with_reducible first | exact HB.out | apply below_alloc | apply pw_below_drewN | apply below_drew1 | refine below_set ?_ GE176.out | refine below_set ?_ GE191.out) | exact HB.out)⟩⟩
                                                  · replace c36 := Bool.eq_false_iff.mpr c36
                                                    subst c36
                                                    have H1 : (if (t189 != (!false)) = true then (some false) else (gimballaw21_MotionWindows.l1 kj27 l0 (wrap64 (x4_3 + 500)) x5_1 (!false) x7_1 x8_1 ji10 (wrap64 (x10_3 + 1)) t183 t184 t185 t186 t187 t188)) = some r := by rw [if_neg (show ¬ (false = true) by decide)] at H; exact H
                                                    clear H
                                                    have H := H1
                                                    clear H1
                                                    by_cases c46 : (t189 != (!false)) = true
                                                    · rw [if_pos c46] at H
                                                      have c46b0 : (t189 != (!false)) = true := c46
                                                      (try (have c46b1 : decide (t189 = (!false)) = false := by simpa using c46))
                                                      (try (have c46b2 : (t189 == (!false)) = false := by simpa using c46))
                                                      (try (have c46b3 : ¬ (t189 = (!false)) := by simpa using c46))
                                                      (try (have c46b4 : t189 = false := by simpa using c46))
                                                      clear c46
                                                      obtain rfl := Option.some.inj H
                                                      go_wp2
                                                      go_ret
                                                      exact ⟨by first | rfl | (simp [errW_none, errW_some] <;> rfl) | (simp only [← hji10]; first | rfl | (simp [errW_none, errW_some] <;> rfl)) | (simp [*, errW_none, errW_some] <;> rfl), by repeat (first | (with_reducible first | exact HB.out | apply below_alloc | apply pw_below_drewN | apply below_drew1 | refine below_set ?_ GE176.out | refine below_set ?_ GE191.out) | exact HB.out)⟩
                                                    · rw [if_neg c46] at H
                                                      have c46b0 : (t189 != (!false)) = false := by simpa using c46
                                                      (try (have c46b1 : decide (t189 = (!false)) = true := by simpa using c46))
                                                      (try (have c46b2 : (t189 == (!false)) = true := by simpa using c46))
                                                      (try (have c46b3 : t189 = true := by simpa using c46))
                                                      clear c46
                                                      have H' := Aside0.mk H
                                                      clear H
                                                      have hnb47 := NB191_176.out
                                                      have hnc47 := NB176_191.out
                                                      have hcz48_0 : wc.cell? ⟨gb191, 0, none⟩ = some (.bool t183) := (blk_cell BK191.out 0).trans rfl
                                                      have hcz48_1 : wc.cell? ⟨gb191, 1, none⟩ = some (.int .i64 t184) := (blk_cell BK191.out 1).trans rfl
                                                      have hcz48_2 : wc.cell? ⟨gb191, 2, none⟩ = some (.int .i64 t185) := (blk_cell BK191.out 2).trans rfl
                                                      have hcz48_3 : wc.cell? ⟨gb191, 3, none⟩ = some (.int .i64 t186) := (blk_cell BK191.out 3).trans rfl
                                                      have hcz48_4 : wc.cell? ⟨gb191, 4, none⟩ = some (.int .i64 t187) := (blk_cell BK191.out 4).trans rfl
                                                      have hcz48_5 : wc.cell? ⟨gb191, 5, none⟩ = some (.bool t188) := (blk_cell BK191.out 5).trans rfl
                                                      have hfz48_0 := blk_frozen BK191.out 0
                                                      have hfz48_1 := blk_frozen BK191.out 1
                                                      have hfz48_2 := blk_frozen BK191.out 2
                                                      have hfz48_3 := blk_frozen BK191.out 3
                                                      have hfz48_4 := blk_frozen BK191.out 4
                                                      have hfz48_5 := blk_frozen BK191.out 5
                                                      have hcz49_0 : wc.cell? ⟨gb176, 0, none⟩ = some (.bool x177000_3) := (blk_cell BK176.out 0).trans rfl
                                                      have hcz49_1 : wc.cell? ⟨gb176, 1, none⟩ = some (.int .i64 x177001_3) := (blk_cell BK176.out 1).trans rfl
                                                      have hcz49_2 : wc.cell? ⟨gb176, 2, none⟩ = some (.int .i64 x177002_3) := (blk_cell BK176.out 2).trans rfl
                                                      have hcz49_3 : wc.cell? ⟨gb176, 3, none⟩ = some (.int .i64 x177003_3) := (blk_cell BK176.out 3).trans rfl
                                                      have hcz49_4 : wc.cell? ⟨gb176, 4, none⟩ = some (.int .i64 x177004_3) := (blk_cell BK176.out 4).trans rfl
                                                      have hcz49_5 : wc.cell? ⟨gb176, 5, none⟩ = some (.bool x177005_3) := (blk_cell BK176.out 5).trans rfl
                                                      have hfz49_0 := blk_frozen BK176.out 0
                                                      have hfz49_1 := blk_frozen BK176.out 1
                                                      have hfz49_2 := blk_frozen BK176.out 2
                                                      have hfz49_3 := blk_frozen BK176.out 3
                                                      have hfz49_4 := blk_frozen BK176.out 4
                                                      have hfz49_5 := blk_frozen BK176.out 5
                                                      go_wp2
                                                      go_roundg kj27
                                                      case measure => have := HK1.out; have := HJ3.out; have := HK3.out; have := HJ11.out; have := HJ13.out; have := HJ18.out; have := HK7.out; have := HJ27.out; omega
                                                      case rel => exact ⟨(wrap64 (x4_3 + 500)), (!false), (wrap64 (x10_3 + 1)), (t183), (t184), (t185), (t186), (t187), (t188), (by first | rfl | (simp; done) | (simp [*]; done)), (by first | rfl | (simp; done) | (simp [*]; done)), (by first | rfl | (simp; done) | (simp [*]; done)), H', ⟨by have := HK1.out; have := HJ3.out; have := HK3.out; have := HJ11.out; have := HJ13.out; have := HJ18.out; have := HK7.out; have := HJ27.out; omega⟩, ⟨by (with_reducible repeat (first | apply Kd.R_alloc | apply Kd.R_drewN | apply Kd.R_drew)); exact Kd.R_mono (Kd.R_far (p := ⟨gb176, 5, none⟩) (Kd.R_far (p := ⟨gb176, 4, none⟩) (Kd.R_far (p := ⟨gb176, 3, none⟩) (Kd.R_far (p := ⟨gb176, 2, none⟩) (Kd.R_far (p := ⟨gb176, 1, none⟩) (Kd.R_far (p := ⟨gb176, 0, none⟩) (Kd.R_types HO_5.out BK176.out (by decide)) (fun _ hk => hk.2) (.bool t183)) (fun _ hk => hk.2) (.int .i64 t184)) (fun _ hk => hk.2) (.int .i64 t185)) (fun _ hk => hk.2) (.int .i64 t186)) (fun _ hk => hk.2) (.int .i64 t187)) (fun _ hk => hk.2) (.bool t188)) (fun _ hk => trivial)⟩, ⟨by (with_reducible repeat (first | refine blk_drewN ?_ _ | refine blk_drew ?_ | refine blk_alloc ?_ _)); refine blk_put (cs := #[.bool t183, .int .i64 t184, .int .i64 t185, .int .i64 t186, .int .i64 t187, .bool x177005_3]) ?_ 5 _ rfl; (with_reducible repeat (first | refine blk_drewN ?_ _ | refine blk_drew ?_ | refine blk_alloc ?_ _)); refine blk_put (cs := #[.bool t183, .int .i64 t184, .int .i64 t185, .int .i64 t186, .int .i64 x177004_3, .bool x177005_3]) ?_ 4 _ rfl; (with_reducible repeat (first | refine blk_drewN ?_ _ | refine blk_drew ?_ | refine blk_alloc ?_ _)); refine blk_put (cs := #[.bool t183, .int .i64 t184, .int .i64 t185, .int .i64 x177003_3, .int .i64 x177004_3, .bool x177005_3]) ?_ 3 _ rfl; (with_reducible repeat (first | refine blk_drewN ?_ _ | refine blk_drew ?_ | refine blk_alloc ?_ _)); refine blk_put (cs := #[.bool t183, .int .i64 t184, .int .i64 x177002_3, .int .i64 x177003_3, .int .i64 x177004_3, .bool x177005_3]) ?_ 2 _ rfl; (with_reducible repeat (first | refine blk_drewN ?_ _ | refine blk_drew ?_ | refine blk_alloc ?_ _)); refine blk_put (cs := #[.bool t183, .int .i64 x177001_3, .int .i64 x177002_3, .int .i64 x177003_3, .int .i64 x177004_3, .bool x177005_3]) ?_ 1 _ rfl; (with_reducible repeat (first | refine blk_drewN ?_ _ | refine blk_drew ?_ | refine blk_alloc ?_ _)); refine blk_put (cs := #[.bool x177000_3, .int .i64 x177001_3, .int .i64 x177002_3, .int .i64 x177003_3, .int .i64 x177004_3, .bool x177005_3]) ?_ 0 _ rfl; (with_reducible repeat (first | refine blk_drewN ?_ _ | refine blk_drew ?_ | refine blk_alloc ?_ _)); exact BK176.out⟩, ⟨by repeat (first | (with_reducible first | exact HB.out | apply below_alloc | apply pw_below_drewN | apply below_drew1 | refine below_set ?_ GE176.out | refine below_set ?_ GE191.out) | exact HB.out)⟩⟩
                                                · rw [if_neg c35] at H
                                                  have c35b0 : decide (5 ≤ x16_7) = false := decide_eq_false c35
                                                  clear c35
                                                  by_cases c50 : x6_3 = true
                                                  · subst c50
                                                    have H1 : (if x16_7 > 0 then (if (t189 != false) = true then (some false) else (gimballaw21_MotionWindows.l1 kj27 l0 (wrap64 (x4_3 + 500)) x5_1 true x7_1 x8_1 ji10 (wrap64 (x10_3 + 1)) t183 t184 t185 t186 t187 t188)) else (if (t189 != false) = true then (some false) else (gimballaw21_MotionWindows.l1 kj27 l0 (wrap64 (x4_3 + 500)) x5_1 false x7_1 x8_1 ji10 (wrap64 (x10_3 + 1)) t183 t184 t185 t186 t187 t188))) = some r := by rw [if_pos rfl] at H; exact H
                                                    clear H
                                                    have H := H1
                                                    clear H1
                                                    by_cases c51 : x16_7 > 0
                                                    · rw [if_pos c51] at H
                                                      have c51b0 : decide (0 < x16_7) = true := decide_eq_true c51
                                                      clear c51
                                                      by_cases c52 : (t189 != false) = true
                                                      · rw [if_pos c52] at H
                                                        have c52b0 : (t189 != false) = true := c52
                                                        (try (have c52b1 : decide (t189 = false) = false := by simpa using c52))
                                                        (try (have c52b2 : (t189 == false) = false := by simpa using c52))
                                                        (try (have c52b3 : ¬ (t189 = false) := by simpa using c52))
                                                        (try (have c52b4 : t189 = true := by simpa using c52))
                                                        clear c52
                                                        obtain rfl := Option.some.inj H
                                                        go_wp2
                                                        go_ret
                                                        exact ⟨by first | rfl | (simp [errW_none, errW_some] <;> rfl) | (simp only [← hji10]; first | rfl | (simp [errW_none, errW_some] <;> rfl)) | (simp [*, errW_none, errW_some] <;> rfl), by repeat (first | (with_reducible first | exact HB.out | apply below_alloc | apply pw_below_drewN | apply below_drew1 | refine below_set ?_ GE176.out | refine below_set ?_ GE191.out) | exact HB.out)⟩
                                                      · rw [if_neg c52] at H
                                                        have c52b0 : (t189 != false) = false := by simpa using c52
                                                        (try (have c52b1 : decide (t189 = false) = true := by simpa using c52))
                                                        (try (have c52b2 : (t189 == false) = true := by simpa using c52))
                                                        (try (have c52b3 : t189 = false := by simpa using c52))
                                                        clear c52
                                                        have H' := Aside0.mk H
                                                        clear H
                                                        have hnb53 := NB191_176.out
                                                        have hnc53 := NB176_191.out
                                                        have hcz54_0 : wc.cell? ⟨gb191, 0, none⟩ = some (.bool t183) := (blk_cell BK191.out 0).trans rfl
                                                        have hcz54_1 : wc.cell? ⟨gb191, 1, none⟩ = some (.int .i64 t184) := (blk_cell BK191.out 1).trans rfl
                                                        have hcz54_2 : wc.cell? ⟨gb191, 2, none⟩ = some (.int .i64 t185) := (blk_cell BK191.out 2).trans rfl
                                                        have hcz54_3 : wc.cell? ⟨gb191, 3, none⟩ = some (.int .i64 t186) := (blk_cell BK191.out 3).trans rfl
                                                        have hcz54_4 : wc.cell? ⟨gb191, 4, none⟩ = some (.int .i64 t187) := (blk_cell BK191.out 4).trans rfl
                                                        have hcz54_5 : wc.cell? ⟨gb191, 5, none⟩ = some (.bool t188) := (blk_cell BK191.out 5).trans rfl
                                                        have hfz54_0 := blk_frozen BK191.out 0
                                                        have hfz54_1 := blk_frozen BK191.out 1
                                                        have hfz54_2 := blk_frozen BK191.out 2
                                                        have hfz54_3 := blk_frozen BK191.out 3
                                                        have hfz54_4 := blk_frozen BK191.out 4
                                                        have hfz54_5 := blk_frozen BK191.out 5
                                                        have hcz55_0 : wc.cell? ⟨gb176, 0, none⟩ = some (.bool x177000_3) := (blk_cell BK176.out 0).trans rfl
                                                        have hcz55_1 : wc.cell? ⟨gb176, 1, none⟩ = some (.int .i64 x177001_3) := (blk_cell BK176.out 1).trans rfl
                                                        have hcz55_2 : wc.cell? ⟨gb176, 2, none⟩ = some (.int .i64 x177002_3) := (blk_cell BK176.out 2).trans rfl
                                                        have hcz55_3 : wc.cell? ⟨gb176, 3, none⟩ = some (.int .i64 x177003_3) := (blk_cell BK176.out 3).trans rfl
                                                        have hcz55_4 : wc.cell? ⟨gb176, 4, none⟩ = some (.int .i64 x177004_3) := (blk_cell BK176.out 4).trans rfl
                                                        have hcz55_5 : wc.cell? ⟨gb176, 5, none⟩ = some (.bool x177005_3) := (blk_cell BK176.out 5).trans rfl
                                                        have hfz55_0 := blk_frozen BK176.out 0
                                                        have hfz55_1 := blk_frozen BK176.out 1
                                                        have hfz55_2 := blk_frozen BK176.out 2
                                                        have hfz55_3 := blk_frozen BK176.out 3
                                                        have hfz55_4 := blk_frozen BK176.out 4
                                                        have hfz55_5 := blk_frozen BK176.out 5
                                                        go_wp2
                                                        go_roundg kj27
                                                        case measure => have := HK1.out; have := HJ3.out; have := HK3.out; have := HJ11.out; have := HJ13.out; have := HJ18.out; have := HK7.out; have := HJ27.out; omega
                                                        case rel => exact ⟨(wrap64 (x4_3 + 500)), (true), (wrap64 (x10_3 + 1)), (t183), (t184), (t185), (t186), (t187), (t188), (by first | rfl | (simp; done) | (simp [*]; done)), (by first | rfl | (simp; done) | (simp [*]; done)), (by first | rfl | (simp; done) | (simp [*]; done)), H', ⟨by have := HK1.out; have := HJ3.out; have := HK3.out; have := HJ11.out; have := HJ13.out; have := HJ18.out; have := HK7.out; have := HJ27.out; omega⟩, ⟨by (with_reducible repeat (first | apply Kd.R_alloc | apply Kd.R_drewN | apply Kd.R_drew)); exact Kd.R_mono (Kd.R_far (p := ⟨gb176, 5, none⟩) (Kd.R_far (p := ⟨gb176, 4, none⟩) (Kd.R_far (p := ⟨gb176, 3, none⟩) (Kd.R_far (p := ⟨gb176, 2, none⟩) (Kd.R_far (p := ⟨gb176, 1, none⟩) (Kd.R_far (p := ⟨gb176, 0, none⟩) (Kd.R_types HO_5.out BK176.out (by decide)) (fun _ hk => hk.2) (.bool t183)) (fun _ hk => hk.2) (.int .i64 t184)) (fun _ hk => hk.2) (.int .i64 t185)) (fun _ hk => hk.2) (.int .i64 t186)) (fun _ hk => hk.2) (.int .i64 t187)) (fun _ hk => hk.2) (.bool t188)) (fun _ hk => trivial)⟩, ⟨by (with_reducible repeat (first | refine blk_drewN ?_ _ | refine blk_drew ?_ | refine blk_alloc ?_ _)); refine blk_put (cs := #[.bool t183, .int .i64 t184, .int .i64 t185, .int .i64 t186, .int .i64 t187, .bool x177005_3]) ?_ 5 _ rfl; (with_reducible repeat (first | refine blk_drewN ?_ _ | refine blk_drew ?_ | refine blk_alloc ?_ _)); refine blk_put (cs := #[.bool t183, .int .i64 t184, .int .i64 t185, .int .i64 t186, .int .i64 x177004_3, .bool x177005_3]) ?_ 4 _ rfl; (with_reducible repeat (first | refine blk_drewN ?_ _ | refine blk_drew ?_ | refine blk_alloc ?_ _)); refine blk_put (cs := #[.bool t183, .int .i64 t184, .int .i64 t185, .int .i64 x177003_3, .int .i64 x177004_3, .bool x177005_3]) ?_ 3 _ rfl; (with_reducible repeat (first | refine blk_drewN ?_ _ | refine blk_drew ?_ | refine blk_alloc ?_ _)); refine blk_put (cs := #[.bool t183, .int .i64 t184, .int .i64 x177002_3, .int .i64 x177003_3, .int .i64 x177004_3, .bool x177005_3]) ?_ 2 _ rfl; (with_reducible repeat (first | refine blk_drewN ?_ _ | refine blk_drew ?_ | refine blk_alloc ?_ _)); refine blk_put (cs := #[.bool t183, .int .i64 x177001_3, .int .i64 x177002_3, .int .i64 x177003_3, .int .i64 x177004_3, .bool x177005_3]) ?_ 1 _ rfl; (with_reducible repeat (first | refine blk_drewN ?_ _ | refine blk_drew ?_ | refine blk_alloc ?_ _)); refine blk_put (cs := #[.bool x177000_3, .int .i64 x177001_3, .int .i64 x177002_3, .int .i64 x177003_3, .int .i64 x177004_3, .bool x177005_3]) ?_ 0 _ rfl; (with_reducible repeat (first | refine blk_drewN ?_ _ | refine blk_drew ?_ | refine blk_alloc ?_ _)); exact BK176.out⟩, ⟨by repeat (first | (with_reducible first | exact HB.out | apply below_alloc | apply pw_below_drewN | apply below_drew1 | refine below_set ?_ GE176.out | refine below_set ?_ GE191.out) | exact HB.out)⟩⟩
                                                    · rw [if_neg c51] at H
                                                      have c51b0 : decide (0 < x16_7) = false := decide_eq_false c51
                                                      clear c51
                                                      by_cases c56 : (t189 != false) = true
                                                      · rw [if_pos c56] at H
                                                        have c56b0 : (t189 != false) = true := c56
                                                        (try (have c56b1 : decide (t189 = false) = false := by simpa using c56))
                                                        (try (have c56b2 : (t189 == false) = false := by simpa using c56))
                                                        (try (have c56b3 : ¬ (t189 = false) := by simpa using c56))
                                                        (try (have c56b4 : t189 = true := by simpa using c56))
                                                        clear c56
                                                        obtain rfl := Option.some.inj H
                                                        go_wp2
                                                        go_ret
                                                        exact ⟨by first | rfl | (simp [errW_none, errW_some] <;> rfl) | (simp only [← hji10]; first | rfl | (simp [errW_none, errW_some] <;> rfl)) | (simp [*, errW_none, errW_some] <;> rfl), by repeat (first | (with_reducible first | exact HB.out | apply below_alloc | apply pw_below_drewN | apply below_drew1 | refine below_set ?_ GE176.out | refine below_set ?_ GE191.out) | exact HB.out)⟩
                                                      · rw [if_neg c56] at H
                                                        have c56b0 : (t189 != false) = false := by simpa using c56
                                                        (try (have c56b1 : decide (t189 = false) = true := by simpa using c56))
                                                        (try (have c56b2 : (t189 == false) = true := by simpa using c56))
                                                        (try (have c56b3 : t189 = false := by simpa using c56))
                                                        clear c56
                                                        have H' := Aside0.mk H
                                                        clear H
                                                        have hnb57 := NB191_176.out
                                                        have hnc57 := NB176_191.out
                                                        have hcz58_0 : wc.cell? ⟨gb191, 0, none⟩ = some (.bool t183) := (blk_cell BK191.out 0).trans rfl
                                                        have hcz58_1 : wc.cell? ⟨gb191, 1, none⟩ = some (.int .i64 t184) := (blk_cell BK191.out 1).trans rfl
                                                        have hcz58_2 : wc.cell? ⟨gb191, 2, none⟩ = some (.int .i64 t185) := (blk_cell BK191.out 2).trans rfl
                                                        have hcz58_3 : wc.cell? ⟨gb191, 3, none⟩ = some (.int .i64 t186) := (blk_cell BK191.out 3).trans rfl
                                                        have hcz58_4 : wc.cell? ⟨gb191, 4, none⟩ = some (.int .i64 t187) := (blk_cell BK191.out 4).trans rfl
                                                        have hcz58_5 : wc.cell? ⟨gb191, 5, none⟩ = some (.bool t188) := (blk_cell BK191.out 5).trans rfl
                                                        have hfz58_0 := blk_frozen BK191.out 0
                                                        have hfz58_1 := blk_frozen BK191.out 1
                                                        have hfz58_2 := blk_frozen BK191.out 2
                                                        have hfz58_3 := blk_frozen BK191.out 3
                                                        have hfz58_4 := blk_frozen BK191.out 4
                                                        have hfz58_5 := blk_frozen BK191.out 5
                                                        have hcz59_0 : wc.cell? ⟨gb176, 0, none⟩ = some (.bool x177000_3) := (blk_cell BK176.out 0).trans rfl
                                                        have hcz59_1 : wc.cell? ⟨gb176, 1, none⟩ = some (.int .i64 x177001_3) := (blk_cell BK176.out 1).trans rfl
                                                        have hcz59_2 : wc.cell? ⟨gb176, 2, none⟩ = some (.int .i64 x177002_3) := (blk_cell BK176.out 2).trans rfl
                                                        have hcz59_3 : wc.cell? ⟨gb176, 3, none⟩ = some (.int .i64 x177003_3) := (blk_cell BK176.out 3).trans rfl
                                                        have hcz59_4 : wc.cell? ⟨gb176, 4, none⟩ = some (.int .i64 x177004_3) := (blk_cell BK176.out 4).trans rfl
                                                        have hcz59_5 : wc.cell? ⟨gb176, 5, none⟩ = some (.bool x177005_3) := (blk_cell BK176.out 5).trans rfl
                                                        have hfz59_0 := blk_frozen BK176.out 0
                                                        have hfz59_1 := blk_frozen BK176.out 1
                                                        have hfz59_2 := blk_frozen BK176.out 2
                                                        have hfz59_3 := blk_frozen BK176.out 3
                                                        have hfz59_4 := blk_frozen BK176.out 4
                                                        have hfz59_5 := blk_frozen BK176.out 5
                                                        go_wp2
                                                        go_roundg kj27
                                                        case measure => have := HK1.out; have := HJ3.out; have := HK3.out; have := HJ11.out; have := HJ13.out; have := HJ18.out; have := HK7.out; have := HJ27.out; omega
                                                        case rel => exact ⟨(wrap64 (x4_3 + 500)), (false), (wrap64 (x10_3 + 1)), (t183), (t184), (t185), (t186), (t187), (t188), (by first | rfl | (simp; done) | (simp [*]; done)), (by first | rfl | (simp; done) | (simp [*]; done)), (by first | rfl | (simp; done) | (simp [*]; done)), H', ⟨by have := HK1.out; have := HJ3.out; have := HK3.out; have := HJ11.out; have := HJ13.out; have := HJ18.out; have := HK7.out; have := HJ27.out; omega⟩, ⟨by (with_reducible repeat (first | apply Kd.R_alloc | apply Kd.R_drewN | apply Kd.R_drew)); exact Kd.R_mono (Kd.R_far (p := ⟨gb176, 5, none⟩) (Kd.R_far (p := ⟨gb176, 4, none⟩) (Kd.R_far (p := ⟨gb176, 3, none⟩) (Kd.R_far (p := ⟨gb176, 2, none⟩) (Kd.R_far (p := ⟨gb176, 1, none⟩) (Kd.R_far (p := ⟨gb176, 0, none⟩) (Kd.R_types HO_5.out BK176.out (by decide)) (fun _ hk => hk.2) (.bool t183)) (fun _ hk => hk.2) (.int .i64 t184)) (fun _ hk => hk.2) (.int .i64 t185)) (fun _ hk => hk.2) (.int .i64 t186)) (fun _ hk => hk.2) (.int .i64 t187)) (fun _ hk => hk.2) (.bool t188)) (fun _ hk => trivial)⟩, ⟨by (with_reducible repeat (first | refine blk_drewN ?_ _ | refine blk_drew ?_ | refine blk_alloc ?_ _)); refine blk_put (cs := #[.bool t183, .int .i64 t184, .int .i64 t185, .int .i64 t186, .int .i64 t187, .bool x177005_3]) ?_ 5 _ rfl; (with_reducible repeat (first | refine blk_drewN ?_ _ | refine blk_drew ?_ | refine blk_alloc ?_ _)); refine blk_put (cs := #[.bool t183, .int .i64 t184, .int .i64 t185, .int .i64 t186, .int .i64 x177004_3, .bool x177005_3]) ?_ 4 _ rfl; (with_reducible repeat (first | refine blk_drewN ?_ _ | refine blk_drew ?_ | refine blk_alloc ?_ _)); refine blk_put (cs := #[.bool t183, .int .i64 t184, .int .i64 t185, .int .i64 x177003_3, .int .i64 x177004_3, .bool x177005_3]) ?_ 3 _ rfl; (with_reducible repeat (first | refine blk_drewN ?_ _ | refine blk_drew ?_ | refine blk_alloc ?_ _)); refine blk_put (cs := #[.bool t183, .int .i64 t184, .int .i64 x177002_3, .int .i64 x177003_3, .int .i64 x177004_3, .bool x177005_3]) ?_ 2 _ rfl; (with_reducible repeat (first | refine blk_drewN ?_ _ | refine blk_drew ?_ | refine blk_alloc ?_ _)); refine blk_put (cs := #[.bool t183, .int .i64 x177001_3, .int .i64 x177002_3, .int .i64 x177003_3, .int .i64 x177004_3, .bool x177005_3]) ?_ 1 _ rfl; (with_reducible repeat (first | refine blk_drewN ?_ _ | refine blk_drew ?_ | refine blk_alloc ?_ _)); refine blk_put (cs := #[.bool x177000_3, .int .i64 x177001_3, .int .i64 x177002_3, .int .i64 x177003_3, .int .i64 x177004_3, .bool x177005_3]) ?_ 0 _ rfl; (with_reducible repeat (first | refine blk_drewN ?_ _ | refine blk_drew ?_ | refine blk_alloc ?_ _)); exact BK176.out⟩, ⟨by repeat (first | (with_reducible first | exact HB.out | apply below_alloc | apply pw_below_drewN | apply below_drew1 | refine below_set ?_ GE176.out | refine below_set ?_ GE191.out) | exact HB.out)⟩⟩
                                                  · replace c50 := Bool.eq_false_iff.mpr c50
                                                    subst c50
                                                    have H1 : (if (t189 != false) = true then (some false) else (gimballaw21_MotionWindows.l1 kj27 l0 (wrap64 (x4_3 + 500)) x5_1 false x7_1 x8_1 ji10 (wrap64 (x10_3 + 1)) t183 t184 t185 t186 t187 t188)) = some r := by rw [if_neg (show ¬ (false = true) by decide)] at H; exact H
                                                    clear H
                                                    have H := H1
                                                    clear H1
                                                    by_cases c60 : (t189 != false) = true
                                                    · rw [if_pos c60] at H
                                                      have c60b0 : (t189 != false) = true := c60
                                                      (try (have c60b1 : decide (t189 = false) = false := by simpa using c60))
                                                      (try (have c60b2 : (t189 == false) = false := by simpa using c60))
                                                      (try (have c60b3 : ¬ (t189 = false) := by simpa using c60))
                                                      (try (have c60b4 : t189 = true := by simpa using c60))
                                                      clear c60
                                                      obtain rfl := Option.some.inj H
                                                      go_wp2
                                                      go_ret
                                                      exact ⟨by first | rfl | (simp [errW_none, errW_some] <;> rfl) | (simp only [← hji10]; first | rfl | (simp [errW_none, errW_some] <;> rfl)) | (simp [*, errW_none, errW_some] <;> rfl), by repeat (first | (with_reducible first | exact HB.out | apply below_alloc | apply pw_below_drewN | apply below_drew1 | refine below_set ?_ GE176.out | refine below_set ?_ GE191.out) | exact HB.out)⟩
                                                    · rw [if_neg c60] at H
                                                      have c60b0 : (t189 != false) = false := by simpa using c60
                                                      (try (have c60b1 : decide (t189 = false) = true := by simpa using c60))
                                                      (try (have c60b2 : (t189 == false) = true := by simpa using c60))
                                                      (try (have c60b3 : t189 = false := by simpa using c60))
                                                      clear c60
                                                      have H' := Aside0.mk H
                                                      clear H
                                                      have hnb61 := NB191_176.out
                                                      have hnc61 := NB176_191.out
                                                      have hcz62_0 : wc.cell? ⟨gb191, 0, none⟩ = some (.bool t183) := (blk_cell BK191.out 0).trans rfl
                                                      have hcz62_1 : wc.cell? ⟨gb191, 1, none⟩ = some (.int .i64 t184) := (blk_cell BK191.out 1).trans rfl
                                                      have hcz62_2 : wc.cell? ⟨gb191, 2, none⟩ = some (.int .i64 t185) := (blk_cell BK191.out 2).trans rfl
                                                      have hcz62_3 : wc.cell? ⟨gb191, 3, none⟩ = some (.int .i64 t186) := (blk_cell BK191.out 3).trans rfl
                                                      have hcz62_4 : wc.cell? ⟨gb191, 4, none⟩ = some (.int .i64 t187) := (blk_cell BK191.out 4).trans rfl
                                                      have hcz62_5 : wc.cell? ⟨gb191, 5, none⟩ = some (.bool t188) := (blk_cell BK191.out 5).trans rfl
                                                      have hfz62_0 := blk_frozen BK191.out 0
                                                      have hfz62_1 := blk_frozen BK191.out 1
                                                      have hfz62_2 := blk_frozen BK191.out 2
                                                      have hfz62_3 := blk_frozen BK191.out 3
                                                      have hfz62_4 := blk_frozen BK191.out 4
                                                      have hfz62_5 := blk_frozen BK191.out 5
                                                      have hcz63_0 : wc.cell? ⟨gb176, 0, none⟩ = some (.bool x177000_3) := (blk_cell BK176.out 0).trans rfl
                                                      have hcz63_1 : wc.cell? ⟨gb176, 1, none⟩ = some (.int .i64 x177001_3) := (blk_cell BK176.out 1).trans rfl
                                                      have hcz63_2 : wc.cell? ⟨gb176, 2, none⟩ = some (.int .i64 x177002_3) := (blk_cell BK176.out 2).trans rfl
                                                      have hcz63_3 : wc.cell? ⟨gb176, 3, none⟩ = some (.int .i64 x177003_3) := (blk_cell BK176.out 3).trans rfl
                                                      have hcz63_4 : wc.cell? ⟨gb176, 4, none⟩ = some (.int .i64 x177004_3) := (blk_cell BK176.out 4).trans rfl
                                                      have hcz63_5 : wc.cell? ⟨gb176, 5, none⟩ = some (.bool x177005_3) := (blk_cell BK176.out 5).trans rfl
                                                      have hfz63_0 := blk_frozen BK176.out 0
                                                      have hfz63_1 := blk_frozen BK176.out 1
                                                      have hfz63_2 := blk_frozen BK176.out 2
                                                      have hfz63_3 := blk_frozen BK176.out 3
                                                      have hfz63_4 := blk_frozen BK176.out 4
                                                      have hfz63_5 := blk_frozen BK176.out 5
                                                      go_wp2
                                                      go_roundg kj27
                                                      case measure => have := HK1.out; have := HJ3.out; have := HK3.out; have := HJ11.out; have := HJ13.out; have := HJ18.out; have := HK7.out; have := HJ27.out; omega
                                                      case rel => exact ⟨(wrap64 (x4_3 + 500)), (false), (wrap64 (x10_3 + 1)), (t183), (t184), (t185), (t186), (t187), (t188), (by first | rfl | (simp; done) | (simp [*]; done)), (by first | rfl | (simp; done) | (simp [*]; done)), (by first | rfl | (simp; done) | (simp [*]; done)), H', ⟨by have := HK1.out; have := HJ3.out; have := HK3.out; have := HJ11.out; have := HJ13.out; have := HJ18.out; have := HK7.out; have := HJ27.out; omega⟩, ⟨by (with_reducible repeat (first | apply Kd.R_alloc | apply Kd.R_drewN | apply Kd.R_drew)); exact Kd.R_mono (Kd.R_far (p := ⟨gb176, 5, none⟩) (Kd.R_far (p := ⟨gb176, 4, none⟩) (Kd.R_far (p := ⟨gb176, 3, none⟩) (Kd.R_far (p := ⟨gb176, 2, none⟩) (Kd.R_far (p := ⟨gb176, 1, none⟩) (Kd.R_far (p := ⟨gb176, 0, none⟩) (Kd.R_types HO_5.out BK176.out (by decide)) (fun _ hk => hk.2) (.bool t183)) (fun _ hk => hk.2) (.int .i64 t184)) (fun _ hk => hk.2) (.int .i64 t185)) (fun _ hk => hk.2) (.int .i64 t186)) (fun _ hk => hk.2) (.int .i64 t187)) (fun _ hk => hk.2) (.bool t188)) (fun _ hk => trivial)⟩, ⟨by (with_reducible repeat (first | refine blk_drewN ?_ _ | refine blk_drew ?_ | refine blk_alloc ?_ _)); refine blk_put (cs := #[.bool t183, .int .i64 t184, .int .i64 t185, .int .i64 t186, .int .i64 t187, .bool x177005_3]) ?_ 5 _ rfl; (with_reducible repeat (first | refine blk_drewN ?_ _ | refine blk_drew ?_ | refine blk_alloc ?_ _)); refine blk_put (cs := #[.bool t183, .int .i64 t184, .int .i64 t185, .int .i64 t186, .int .i64 x177004_3, .bool x177005_3]) ?_ 4 _ rfl; (with_reducible repeat (first | refine blk_drewN ?_ _ | refine blk_drew ?_ | refine blk_alloc ?_ _)); refine blk_put (cs := #[.bool t183, .int .i64 t184, .int .i64 t185, .int .i64 x177003_3, .int .i64 x177004_3, .bool x177005_3]) ?_ 3 _ rfl; (with_reducible repeat (first | refine blk_drewN ?_ _ | refine blk_drew ?_ | refine blk_alloc ?_ _)); refine blk_put (cs := #[.bool t183, .int .i64 t184, .int .i64 x177002_3, .int .i64 x177003_3, .int .i64 x177004_3, .bool x177005_3]) ?_ 2 _ rfl; (with_reducible repeat (first | refine blk_drewN ?_ _ | refine blk_drew ?_ | refine blk_alloc ?_ _)); refine blk_put (cs := #[.bool t183, .int .i64 x177001_3, .int .i64 x177002_3, .int .i64 x177003_3, .int .i64 x177004_3, .bool x177005_3]) ?_ 1 _ rfl; (with_reducible repeat (first | refine blk_drewN ?_ _ | refine blk_drew ?_ | refine blk_alloc ?_ _)); refine blk_put (cs := #[.bool x177000_3, .int .i64 x177001_3, .int .i64 x177002_3, .int .i64 x177003_3, .int .i64 x177004_3, .bool x177005_3]) ?_ 0 _ rfl; (with_reducible repeat (first | refine blk_drewN ?_ _ | refine blk_drew ?_ | refine blk_alloc ?_ _)); exact BK176.out⟩, ⟨by repeat (first | (with_reducible first | exact HB.out | apply below_alloc | apply pw_below_drewN | apply below_drew1 | refine below_set ?_ GE176.out | refine below_set ?_ GE191.out) | exact HB.out)⟩⟩
                                    · replace c26 := Bool.eq_false_iff.mpr c26
                                      subst c26
                                      have H1 : (if (t189 != false) = true then (some false) else (gimballaw21_MotionWindows.l1 kj18 l0 (wrap64 (x4_3 + 500)) x5_1 x6_3 x7_1 x8_1 ji10 (wrap64 (x10_3 + 1)) t183 t184 t185 t186 t187 t188)) = some r := by rw [if_neg (show ¬ (false = true) by decide)] at H; exact H
                                      clear H
                                      have H := H1
                                      clear H1
                                      by_cases c64 : (t189 != false) = true
                                      · rw [if_pos c64] at H
                                        have c64b0 : (t189 != false) = true := c64
                                        (try (have c64b1 : decide (t189 = false) = false := by simpa using c64))
                                        (try (have c64b2 : (t189 == false) = false := by simpa using c64))
                                        (try (have c64b3 : ¬ (t189 = false) := by simpa using c64))
                                        (try (have c64b4 : t189 = true := by simpa using c64))
                                        clear c64
                                        obtain rfl := Option.some.inj H
                                        go_wp2
                                        go_ret
                                        exact ⟨by first | rfl | (simp [errW_none, errW_some] <;> rfl) | (simp only [← hji10]; first | rfl | (simp [errW_none, errW_some] <;> rfl)) | (simp [*, errW_none, errW_some] <;> rfl), by repeat (first | (with_reducible first | exact HB.out | apply below_alloc | apply pw_below_drewN | apply below_drew1 | refine below_set ?_ GE176.out | refine below_set ?_ GE191.out) | exact HB.out)⟩
                                      · rw [if_neg c64] at H
                                        have c64b0 : (t189 != false) = false := by simpa using c64
                                        (try (have c64b1 : decide (t189 = false) = true := by simpa using c64))
                                        (try (have c64b2 : (t189 == false) = true := by simpa using c64))
                                        (try (have c64b3 : t189 = false := by simpa using c64))
                                        clear c64
                                        have H' := Aside0.mk H
                                        clear H
                                        have hnb65 := NB191_176.out
                                        have hnc65 := NB176_191.out
                                        have hcz66_0 : wc.cell? ⟨gb191, 0, none⟩ = some (.bool t183) := (blk_cell BK191.out 0).trans rfl
                                        have hcz66_1 : wc.cell? ⟨gb191, 1, none⟩ = some (.int .i64 t184) := (blk_cell BK191.out 1).trans rfl
                                        have hcz66_2 : wc.cell? ⟨gb191, 2, none⟩ = some (.int .i64 t185) := (blk_cell BK191.out 2).trans rfl
                                        have hcz66_3 : wc.cell? ⟨gb191, 3, none⟩ = some (.int .i64 t186) := (blk_cell BK191.out 3).trans rfl
                                        have hcz66_4 : wc.cell? ⟨gb191, 4, none⟩ = some (.int .i64 t187) := (blk_cell BK191.out 4).trans rfl
                                        have hcz66_5 : wc.cell? ⟨gb191, 5, none⟩ = some (.bool t188) := (blk_cell BK191.out 5).trans rfl
                                        have hfz66_0 := blk_frozen BK191.out 0
                                        have hfz66_1 := blk_frozen BK191.out 1
                                        have hfz66_2 := blk_frozen BK191.out 2
                                        have hfz66_3 := blk_frozen BK191.out 3
                                        have hfz66_4 := blk_frozen BK191.out 4
                                        have hfz66_5 := blk_frozen BK191.out 5
                                        have hcz67_0 : wc.cell? ⟨gb176, 0, none⟩ = some (.bool x177000_3) := (blk_cell BK176.out 0).trans rfl
                                        have hcz67_1 : wc.cell? ⟨gb176, 1, none⟩ = some (.int .i64 x177001_3) := (blk_cell BK176.out 1).trans rfl
                                        have hcz67_2 : wc.cell? ⟨gb176, 2, none⟩ = some (.int .i64 x177002_3) := (blk_cell BK176.out 2).trans rfl
                                        have hcz67_3 : wc.cell? ⟨gb176, 3, none⟩ = some (.int .i64 x177003_3) := (blk_cell BK176.out 3).trans rfl
                                        have hcz67_4 : wc.cell? ⟨gb176, 4, none⟩ = some (.int .i64 x177004_3) := (blk_cell BK176.out 4).trans rfl
                                        have hcz67_5 : wc.cell? ⟨gb176, 5, none⟩ = some (.bool x177005_3) := (blk_cell BK176.out 5).trans rfl
                                        have hfz67_0 := blk_frozen BK176.out 0
                                        have hfz67_1 := blk_frozen BK176.out 1
                                        have hfz67_2 := blk_frozen BK176.out 2
                                        have hfz67_3 := blk_frozen BK176.out 3
                                        have hfz67_4 := blk_frozen BK176.out 4
                                        have hfz67_5 := blk_frozen BK176.out 5
                                        go_wp2
                                        go_roundg kj18
                                        case measure => have := HK1.out; have := HJ3.out; have := HK3.out; have := HJ11.out; have := HJ13.out; have := HJ18.out; omega
                                        case rel => exact ⟨(wrap64 (x4_3 + 500)), (x6_3), (wrap64 (x10_3 + 1)), (t183), (t184), (t185), (t186), (t187), (t188), (by first | rfl | (simp; done) | (simp [*]; done)), (by first | rfl | (simp; done) | (simp [*]; done)), (by first | rfl | (simp; done) | (simp [*]; done)), H', ⟨by have := HK1.out; have := HJ3.out; have := HK3.out; have := HJ11.out; have := HJ13.out; have := HJ18.out; omega⟩, ⟨by (with_reducible repeat (first | apply Kd.R_alloc | apply Kd.R_drewN | apply Kd.R_drew)); exact Kd.R_mono (Kd.R_far (p := ⟨gb176, 5, none⟩) (Kd.R_far (p := ⟨gb176, 4, none⟩) (Kd.R_far (p := ⟨gb176, 3, none⟩) (Kd.R_far (p := ⟨gb176, 2, none⟩) (Kd.R_far (p := ⟨gb176, 1, none⟩) (Kd.R_far (p := ⟨gb176, 0, none⟩) (Kd.R_types HO_5.out BK176.out (by decide)) (fun _ hk => hk.2) (.bool t183)) (fun _ hk => hk.2) (.int .i64 t184)) (fun _ hk => hk.2) (.int .i64 t185)) (fun _ hk => hk.2) (.int .i64 t186)) (fun _ hk => hk.2) (.int .i64 t187)) (fun _ hk => hk.2) (.bool t188)) (fun _ hk => trivial)⟩, ⟨by (with_reducible repeat (first | refine blk_drewN ?_ _ | refine blk_drew ?_ | refine blk_alloc ?_ _)); refine blk_put (cs := #[.bool t183, .int .i64 t184, .int .i64 t185, .int .i64 t186, .int .i64 t187, .bool x177005_3]) ?_ 5 _ rfl; (with_reducible repeat (first | refine blk_drewN ?_ _ | refine blk_drew ?_ | refine blk_alloc ?_ _)); refine blk_put (cs := #[.bool t183, .int .i64 t184, .int .i64 t185, .int .i64 t186, .int .i64 x177004_3, .bool x177005_3]) ?_ 4 _ rfl; (with_reducible repeat (first | refine blk_drewN ?_ _ | refine blk_drew ?_ | refine blk_alloc ?_ _)); refine blk_put (cs := #[.bool t183, .int .i64 t184, .int .i64 t185, .int .i64 x177003_3, .int .i64 x177004_3, .bool x177005_3]) ?_ 3 _ rfl; (with_reducible repeat (first | refine blk_drewN ?_ _ | refine blk_drew ?_ | refine blk_alloc ?_ _)); refine blk_put (cs := #[.bool t183, .int .i64 t184, .int .i64 x177002_3, .int .i64 x177003_3, .int .i64 x177004_3, .bool x177005_3]) ?_ 2 _ rfl; (with_reducible repeat (first | refine blk_drewN ?_ _ | refine blk_drew ?_ | refine blk_alloc ?_ _)); refine blk_put (cs := #[.bool t183, .int .i64 x177001_3, .int .i64 x177002_3, .int .i64 x177003_3, .int .i64 x177004_3, .bool x177005_3]) ?_ 1 _ rfl; (with_reducible repeat (first | refine blk_drewN ?_ _ | refine blk_drew ?_ | refine blk_alloc ?_ _)); refine blk_put (cs := #[.bool x177000_3, .int .i64 x177001_3, .int .i64 x177002_3, .int .i64 x177003_3, .int .i64 x177004_3, .bool x177005_3]) ?_ 0 _ rfl; (with_reducible repeat (first | refine blk_drewN ?_ _ | refine blk_drew ?_ | refine blk_alloc ?_ _)); exact BK176.out⟩, ⟨by repeat (first | (with_reducible first | exact HB.out | apply below_alloc | apply pw_below_drewN | apply below_drew1 | refine below_set ?_ GE176.out | refine below_set ?_ GE191.out) | exact HB.out)⟩⟩
                              · rw [if_neg c18] at H
                                have c18b0 : (t192 == 0) = false := beq_eq_false_iff_ne.mpr c18
                                have c18b1 : (t192 != 0) = true := bne_iff_ne.mpr c18
                                obtain rfl := Option.some.inj H
                                have hcz68_0 : wc.cell? ⟨gb176, 0, none⟩ = some (.bool x177000_3) := (blk_cell BK176.out 0).trans rfl
                                have hcz68_1 : wc.cell? ⟨gb176, 1, none⟩ = some (.int .i64 x177001_3) := (blk_cell BK176.out 1).trans rfl
                                have hcz68_2 : wc.cell? ⟨gb176, 2, none⟩ = some (.int .i64 x177002_3) := (blk_cell BK176.out 2).trans rfl
                                have hcz68_3 : wc.cell? ⟨gb176, 3, none⟩ = some (.int .i64 x177003_3) := (blk_cell BK176.out 3).trans rfl
                                have hcz68_4 : wc.cell? ⟨gb176, 4, none⟩ = some (.int .i64 x177004_3) := (blk_cell BK176.out 4).trans rfl
                                have hcz68_5 : wc.cell? ⟨gb176, 5, none⟩ = some (.bool x177005_3) := (blk_cell BK176.out 5).trans rfl
                                have hfz68_0 := blk_frozen BK176.out 0
                                have hfz68_1 := blk_frozen BK176.out 1
                                have hfz68_2 := blk_frozen BK176.out 2
                                have hfz68_3 := blk_frozen BK176.out 3
                                have hfz68_4 := blk_frozen BK176.out 4
                                have hfz68_5 := blk_frozen BK176.out 5
                                go_wp2_with (first | ((with_reducible refine gate_callee (f := 21) rfl ?_); refine goesL_ (some 49) rfl rfl Try.func21 (by kernel_rfl) rfl #[.agg #[.bool x177000_3, .int .i64 x177001_3, .int .i64 x177002_3, .int .i64 x177003_3, .int .i64 x177004_3, .bool x177005_3], .int .i64 x11_13, .int .i64 x4_3] rfl (by (try simp only [List.map_toArray, List.map_cons, List.map_nil]); first | done | rfl | (simp only [List.length_drop, List.length_take]; rfl)) ?_; (with_reducible refine (motion_Take.calls kj13 x177000_3 x177001_3 x177002_3 x177003_3 x177004_3 x177005_3 x11_13 x4_3 t183 t184 t185 t186 t187 t188 t189 t190 _ A16.out).mono ?_); rintro e w69 ⟨rfl, hb⟩; refine ⟨_, rfl, ?_⟩; have n0_ := Aside0.mk (Kd.R_below (by (with_reducible repeat (first | apply Kd.R_alloc | apply Kd.R_drewN | apply Kd.R_drew)); exact HO_5.out) hb); have n1_ := Aside0.mk (blk_below (g := gb176) (o := .cells #[.bool x177000_3, .int .i64 x177001_3, .int .i64 x177002_3, .int .i64 x177003_3, .int .i64 x177004_3, .bool x177005_3] 33 (0, 0)) (by (with_reducible repeat (first | refine blk_drewN ?_ _ | refine blk_drew ?_ | refine blk_alloc ?_ _)); exact BK176.out) hb); have n2_ := Aside0.mk (below_step (by repeat (first | (with_reducible first | exact HB.out | apply below_alloc | apply pw_below_drewN | apply below_drew1 | refine below_set ?_ GE176.out) | exact HB.out)) hb); clear HO_5; clear BK176; clear HB; have HO_5 := n0_; have BK176 := n1_; have HB := n2_; clear n0_ n1_ n2_; (try clear hb); (try clear hb2); (try clear hk); (try clear hi)) | ((with_reducible refine gate_dst (N := 12) rfl ?_); (try (refine gate_guard (by rfl) ?_; dsimp only)); refine box_event ?hg (N := 12) ?hd (cs := #[.bool false, .int .i64 0, .int .i64 0, .int .i64 0, .int .i64 0, .bool false]) (t := 33) ?hr ?_; (case hd => rfl); (case hg => rfl); (case hr => first | (go_simp; done) | (go_simp; rfl)); intro gb191 hg w70 hbox hb; have n0_ := Aside0.mk (Kd.R_below (by (with_reducible repeat (first | apply Kd.R_alloc | apply Kd.R_drewN | apply Kd.R_drew)); exact HO_5.out) hb); have n1_ := Aside0.mk (blk_below (g := gb176) (o := .cells #[.bool x177000_3, .int .i64 x177001_3, .int .i64 x177002_3, .int .i64 x177003_3, .int .i64 x177004_3, .bool x177005_3] 33 (0, 0)) (by (with_reducible repeat (first | refine blk_drewN ?_ _ | refine blk_drew ?_ | refine blk_alloc ?_ _)); exact BK176.out) hb); have n2_ := Aside0.mk (below_step (by repeat (first | (with_reducible first | exact HB.out | apply below_alloc | apply pw_below_drewN | apply below_drew1 | refine below_set ?_ GE176.out) | exact HB.out)) hb); have n3_ := Aside0.mk (hbox); have n4_ := Aside0.mk ((by rw [hg]; exact (below_size (by repeat (first | (with_reducible first | exact HB.out | apply below_alloc | apply pw_below_drewN | apply below_drew1 | refine below_set ?_ GE176.out) | exact HB.out))) : w.heap.size ≤ gb191)); have n5_ := Aside0.mk ((by rw [hg]; exact (below_size (by repeat (first | (with_reducible first | exact HB.out | apply below_alloc | apply pw_below_drewN | apply below_drew1 | refine below_set ?_ GE176.out) | exact HB.out))) : w.heap.size ≤ gb191)); have n6_ := Aside0.mk ((by rw [hg]; exact Nat.ne_of_lt (blk_lt (g := gb176) (o := .cells #[.bool x177000_3, .int .i64 x177001_3, .int .i64 x177002_3, .int .i64 x177003_3, .int .i64 x177004_3, .bool x177005_3] 33 (0, 0)) (by (with_reducible repeat (first | refine blk_drewN ?_ _ | refine blk_drew ?_ | refine blk_alloc ?_ _)); exact BK176.out)) : gb176 ≠ gb191)); have n7_ := Aside0.mk ((by rw [hg]; exact Nat.ne_of_gt (blk_lt (g := gb176) (o := .cells #[.bool x177000_3, .int .i64 x177001_3, .int .i64 x177002_3, .int .i64 x177003_3, .int .i64 x177004_3, .bool x177005_3] 33 (0, 0)) (by (with_reducible repeat (first | refine blk_drewN ?_ _ | refine blk_drew ?_ | refine blk_alloc ?_ _)); exact BK176.out)) : gb191 ≠ gb176)); clear HO_5; clear BK176; clear HB; have HO_5 := n0_; have BK176 := n1_; have HB := n2_; have BK191 := n3_; have GW191 := n4_; have GE191 := n5_; have NB176_191 := n6_; have NB191_176 := n7_; clear n0_ n1_ n2_ n3_ n4_ n5_ n6_ n7_; clear hb hbox hg; have hnb71 := NB191_176.out; have hnc71 := NB176_191.out; have hcz72_0 : w70.cell? ⟨gb191, 0, none⟩ = some (.bool false) := (blk_cell BK191.out 0).trans rfl; have hcz72_1 : w70.cell? ⟨gb191, 1, none⟩ = some (.int .i64 0) := (blk_cell BK191.out 1).trans rfl; have hcz72_2 : w70.cell? ⟨gb191, 2, none⟩ = some (.int .i64 0) := (blk_cell BK191.out 2).trans rfl; have hcz72_3 : w70.cell? ⟨gb191, 3, none⟩ = some (.int .i64 0) := (blk_cell BK191.out 3).trans rfl; have hcz72_4 : w70.cell? ⟨gb191, 4, none⟩ = some (.int .i64 0) := (blk_cell BK191.out 4).trans rfl; have hcz72_5 : w70.cell? ⟨gb191, 5, none⟩ = some (.bool false) := (blk_cell BK191.out 5).trans rfl; have hfz72_0 := blk_frozen BK191.out 0; have hfz72_1 := blk_frozen BK191.out 1; have hfz72_2 := blk_frozen BK191.out 2; have hfz72_3 := blk_frozen BK191.out 3; have hfz72_4 := blk_frozen BK191.out 4; have hfz72_5 := blk_frozen BK191.out 5) | ((with_reducible refine gate_callee (f := 22) rfl ?_); refine goesL_ (some 54) rfl rfl Try.func22 (by kernel_rfl) rfl #[.int .i64 t190] rfl (by (try simp only [List.map_toArray, List.map_cons, List.map_nil]); first | done | rfl | (simp only [List.length_drop, List.length_take]; rfl)) ?_; (with_reducible refine (gimballaw21_num.calls t190 t192 _ A17.out).mono ?_); rintro e w' ⟨rfl, ⟨nd, rfl⟩⟩; refine ⟨_, rfl, ?_⟩))
                                go_ret
                                exact ⟨by first | rfl | (simp [errW_none, errW_some] <;> rfl) | (simp only [← hji10]; first | rfl | (simp [errW_none, errW_some] <;> rfl)) | (simp [*, errW_none, errW_some] <;> rfl), by repeat (first | (with_reducible first | exact HB.out | apply below_alloc | apply pw_below_drewN | apply below_drew1 | refine below_set ?_ GE176.out | refine below_set ?_ GE191.out) | exact HB.out)⟩
                    · rw [if_neg c11] at H
                      have c11b0 : decide (x10_3 < 2) = false := decide_eq_false c11
                      clear c11
                      by_cases c73 : x5_1.length < 140737488355328
                      · rw [if_pos c73] at H
                        have LMc73 := Aside0.mk c73
                        clear c73
                        obtain ⟨y180, hy180⟩ : ∃ y_ : List Bool, y_ = (x5_1 ++ [ji10]) := ⟨_, rfl⟩
                        replace H : (gimballaw21_MotionWindows.l0 k3 l0 x4_3 y180 x6_3 true (wrap64 (x8_1 + 1)) x177000_3 x177001_3 x177002_3 x177003_3 x177004_3 x177005_3) = some r := by first | (rw [hy180]; with_reducible exact H) | (have H2_ := (Option.bind_some _ _).symm.trans H; rw [hy180]; with_reducible exact H2_) | (have H2_ := (Option.bind_some _ _).symm.trans H; with_reducible exact H2_) | with_reducible exact H | (rw [hy180]; exact H) | exact H
                        have Ny180 := Aside0.mk hy180
                        clear hy180
                        have H' := Aside0.mk H
                        clear H
                        go_wp2_with (first | ((with_reducible refine gate_builtin (b := .append) (xs := #[.tmp 101, .tmp 103]) rfl ?_); (try (refine gate_guard (by rfl) ?_; dsimp only)); at_builtin; refine Kd.R_append Kd.bool (w0 := w) w.heap.size rfl (.tmp 101) (.tmp 103) 44 4 (.bool false) 1 rfl Try.underlying44 info4 rfl (by decide) (by omega) u5 x5_1 ji10 [.bool ji10] (fun _ => True) (fun _ => False) rfl rfl ?aP (fun _ hk => hk.elim) ?aF ?aO ?aB ?aS ?aL ?_; (case aP => exact rfl); (case aB => exact (by repeat (first | (with_reducible first | exact HB.out | apply below_alloc | apply pw_below_drewN | apply below_drew1 | refine below_set ?_ GE176.out) | exact HB.out))); (case aF => exact (fun _ _ => trivial)); (case aO => exact (by (with_reducible repeat (first | apply Kd.R_alloc | apply Kd.R_drewN | apply Kd.R_drew)); exact HO_5.out)); (case aS => exact (below_size (by repeat (first | (with_reducible first | exact HB.out | apply below_alloc | apply pw_below_drewN | apply below_drew1 | refine below_set ?_ GE176.out) | exact HB.out)))); (case aL => have := LMc73.out; omega); intro v181 w74 ho hb hg hat; rw [← Ny180.out] at ho; have n0_ := Aside0.mk (blk_grown (g := gb176) (o := .cells #[.bool x177000_3, .int .i64 x177001_3, .int .i64 x177002_3, .int .i64 x177003_3, .int .i64 x177004_3, .bool x177005_3] 33 (0, 0)) (by (with_reducible repeat (first | refine blk_drewN ?_ _ | refine blk_drew ?_ | refine blk_alloc ?_ _)); exact BK176.out) hg (Kd.R_ne HO_5.out BK176.out (by decide))); have n1_ := Aside0.mk (hb); have n2_ := Aside0.mk (ho); clear BK176; clear HB; clear HO_5; have BK176 := n0_; have HB := n1_; have HO182 := n2_; clear n0_ n1_ n2_; clear ho hb hg hat))
                        go_roundg k3
                        case measure => have := HK1.out; have := HJ3.out; have := HK3.out; omega
                        case rel => exact ⟨(x4_3), (y180), (x6_3), (true), (wrap64 (x8_1 + 1)), (x177000_3), (x177001_3), (x177002_3), (x177003_3), (x177004_3), (x177005_3), (by first | rfl | (simp; done) | (simp [*]; done)), (by first | rfl | (simp; done) | (simp [*]; done)), (by first | rfl | (simp; done) | (simp [*]; done)), (by first | rfl | (simp; done) | (simp [*]; done)), H', ⟨by have := HK1.out; have := HJ3.out; have := HK3.out; omega⟩, ⟨by (with_reducible repeat (first | apply Kd.R_alloc | apply Kd.R_drewN | apply Kd.R_drew)); exact HO182.out⟩, ⟨by (with_reducible repeat (first | refine blk_drewN ?_ _ | refine blk_drew ?_ | refine blk_alloc ?_ _)); exact BK176.out⟩, ⟨by repeat (first | (with_reducible first | exact HB.out | apply below_alloc | apply pw_below_drewN | apply below_drew1 | refine below_set ?_ GE176.out) | exact HB.out)⟩⟩
                      · rw [if_neg c73] at H
                        exact absurd H (by simp)
              · rw [if_neg c8] at H
                exact absurd H (by simp)
            · rw [if_neg c7] at H
              exact absurd H (by simp)
          · replace c6 := Bool.eq_false_iff.mpr c6
            subst c6
            have H1 : ((gimballaw21_wakes.f kj3).bind fun t177 => (some t177)) = some r := by rw [if_neg (show ¬ (false = true) by decide)] at H; exact H
            clear H
            have H := H1
            clear H1
            replace H := Option.bind_eq_some_iff.mp H
            obtain ⟨t177, A750, H⟩ := H
            replace H : (some t177) = some r := H
            have A75 := Aside0.mk A750
            clear A750
            obtain rfl := Option.some.inj H
            go_wp2_with (first | ((with_reducible refine gate_callee (f := 23) rfl ?_); refine goesL_ (some 105) rfl rfl Try.func23 (by kernel_rfl) rfl #[] rfl (by (try simp only [List.map_toArray, List.map_cons, List.map_nil]); first | done | rfl | (simp only [List.length_drop, List.length_take]; rfl)) ?_; (with_reducible refine (gimballaw21_wakes.calls kj3  t177 _ A75.out).mono ?_); rintro e w76 ⟨rfl, hb⟩; refine ⟨_, rfl, ?_⟩; have n0_ := Aside0.mk (Kd.R_below (by (with_reducible repeat (first | apply Kd.R_alloc | apply Kd.R_drewN | apply Kd.R_drew)); exact HO_5.out) hb); have n1_ := Aside0.mk (blk_below (g := gb176) (o := .cells #[.bool x177000_1, .int .i64 x177001_1, .int .i64 x177002_1, .int .i64 x177003_1, .int .i64 x177004_1, .bool x177005_1] 33 (0, 0)) (by (with_reducible repeat (first | refine blk_drewN ?_ _ | refine blk_drew ?_ | refine blk_alloc ?_ _)); exact BK176.out) hb); have n2_ := Aside0.mk (below_step (by repeat (first | (with_reducible first | exact HB.out | apply below_alloc | apply pw_below_drewN | apply below_drew1 | refine below_set ?_ GE176.out) | exact HB.out)) hb); clear HO_5; clear BK176; clear HB; have HO_5 := n0_; have BK176 := n1_; have HB := n2_; clear n0_ n1_ n2_; (try clear hb); (try clear hb2); (try clear hk); (try clear hi)))
            go_ret
            exact ⟨by first | rfl | (simp [errW_none, errW_some] <;> rfl) | (simp [*, errW_none, errW_some] <;> rfl), by repeat (first | (with_reducible first | exact HB.out | apply below_alloc | apply pw_below_drewN | apply below_drew1 | refine below_set ?_ GE176.out) | exact HB.out)⟩

end Go.Proofs.Ytcgknibjbnijmaa.QMotion
