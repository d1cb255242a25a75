-- Printed by wip/tools/myprint.py (this session's program over the kit's printer).
import Derived.Test.YthokdnheijnmmaaQFxOx0
import Derived.Test.YthokdnheijnmmaaQFxOx1
namespace Go.Proofs.Ythokdnheijnmmaa.QFxO
open Go.RowKit Go.Proofs.YthokdnheijnmmaaW.PrintWords Go.Proofs.YthokdnheijnmmaaW.PrintLast Go.Proofs.YthokdnheijnmmaaW.PrintMore
attribute [local go_sem] max2_int min2_int max_two min_two max_three min_three max_four min_four   -- for this text's walks alone
set_option linter.unusedVariables false
set_option linter.unusedSimpArgs false

/-! ### gimballaw1_FxOrder: function 8 -/
mutual
def gimballaw1_FxOrder.l0 : Nat → List (S24) → Int → Option (Bool)
  | 0, _, _ => none
  | k + 1, x0, x3 => if (wrap64 (x3 + 1)) < (x0.length : Int) then (gimballaw1_FxOrder.j1 k x0 x3 (decide (x3 < 30))) else (gimballaw1_FxOrder.j1 k x0 x3 false)
def gimballaw1_FxOrder.j1 : Nat → List (S24) → Int → Bool → Option (Bool)
  | 0, _, _, _ => none
  | k + 1, x0, x3, x29 => if x29 = true then (if 0 ≤ x3 then (if x3 < (x0.length : Int) then (if 0 ≤ (wrap64 (x3 + 1)) then (if (wrap64 (x3 + 1)) < (x0.length : Int) then ((gimbalref1_May.f ((rd_T24 x0 x3).f0)).bind fun t108 => (if t108 = true then ((gimbalref1_May.f ((rd_T24 x0 (wrap64 (x3 + 1))).f0)).bind fun t109 => (if t109 = true then ((gimbalref1_May.f ((rd_T24 x0 x3).f1)).bind fun t110 => (if t110 = true then (gimballaw1_FxOrder.j2 k x0 x3 ((rd_T24 x0 x3).f0) ((rd_T24 x0 (wrap64 (x3 + 1))).f0) ((rd_T24 x0 x3).f1) (decide (((rd_T24 x0 x3).f1) ≤ 0))) else (gimballaw1_FxOrder.j2 k x0 x3 ((rd_T24 x0 x3).f0) ((rd_T24 x0 (wrap64 (x3 + 1))).f0) ((rd_T24 x0 x3).f1) true))) else (gimballaw1_FxOrder.j2 k x0 x3 ((rd_T24 x0 x3).f0) ((rd_T24 x0 (wrap64 (x3 + 1))).f0) ((rd_T24 x0 x3).f1) true))) else (gimballaw1_FxOrder.j2 k x0 x3 ((rd_T24 x0 x3).f0) ((rd_T24 x0 (wrap64 (x3 + 1))).f0) ((rd_T24 x0 x3).f1) true))) else (none)) else (none)) else (none)) else (none)) else ((gimballaw1_wakes.f).bind fun t104 => (some t104))
def gimballaw1_FxOrder.j2 : Nat → List (S24) → Int → Int → Int → Int → Bool → Option (Bool)
  | 0, _, _, _, _, _, _ => none
  | k + 1, x0, x3, x4, x5, x6, x64 => if x64 = true then (gimballaw1_FxOrder.l0 k x0 (wrap64 (x3 + 1))) else (if x4 > x5 then (gimballaw1_FxOrder.j3 k x0 x3 x5 x4 x6) else (gimballaw1_FxOrder.j3 k x0 x3 x4 x5 x6))
def gimballaw1_FxOrder.j3 : Nat → List (S24) → Int → Int → Int → Int → Option (Bool)
  | 0, _, _, _, _, _ => none
  | k + 1, x0, x3, x4, x5, x6 => (fx_Mul.f x4 x6).bind fun bt111 => ((fx_Mul.f x5 x6).bind fun bt113 => ((fx_Div.f x4 x6).bind fun bt115 => ((fx_Div.f x5 x6).bind fun bt117 => ((gimballaw1_num.f bt111.2).bind fun t119 => (if t119 = 0 then ((gimballaw1_num.f bt113.2).bind fun t120 => (if t120 = 0 then (if bt111.1 > bt113.1 then (gimballaw1_FxOrder.j4 k x0 x3 x4 x6 true) else ((gimballaw1_num.f bt115.2).bind fun t121 => (if t121 = 0 then ((gimballaw1_num.f bt117.2).bind fun t122 => (if t122 = 0 then (gimballaw1_FxOrder.j4 k x0 x3 x4 x6 (decide (bt115.1 > bt117.1))) else (gimballaw1_FxOrder.j4 k x0 x3 x4 x6 false))) else (gimballaw1_FxOrder.j4 k x0 x3 x4 x6 false)))) else ((gimballaw1_num.f bt115.2).bind fun t123 => (if t123 = 0 then ((gimballaw1_num.f bt117.2).bind fun t124 => (if t124 = 0 then (gimballaw1_FxOrder.j4 k x0 x3 x4 x6 (decide (bt115.1 > bt117.1))) else (gimballaw1_FxOrder.j4 k x0 x3 x4 x6 false))) else (gimballaw1_FxOrder.j4 k x0 x3 x4 x6 false))))) else ((gimballaw1_num.f bt115.2).bind fun t125 => (if t125 = 0 then ((gimballaw1_num.f bt117.2).bind fun t126 => (if t126 = 0 then (gimballaw1_FxOrder.j4 k x0 x3 x4 x6 (decide (bt115.1 > bt117.1))) else (gimballaw1_FxOrder.j4 k x0 x3 x4 x6 false))) else (gimballaw1_FxOrder.j4 k x0 x3 x4 x6 false))))))))
def gimballaw1_FxOrder.j4 : Nat → List (S24) → Int → Int → Int → Bool → Option (Bool)
  | 0, _, _, _, _, _ => none
  | k + 1, x0, x3, x4, x6, x121 => if x121 = true then (some false) else ((fx_Ratio.f x4 x6).bind fun bt127 => ((fx_Ratio.f (wrap64 (3 * x4)) (wrap64 (3 * x6))).bind fun bt129 => ((fx_Ratio.f (wrap64 (-x4)) x6).bind fun bt131 => ((gimballaw1_num.f bt127.2).bind fun t133 => (if t133 = 0 then ((gimballaw1_num.f bt129.2).bind fun t134 => (if t134 = 0 then ((gimballaw1_num.f bt131.2).bind fun t135 => (if t135 = 0 then (if bt127.1 = bt129.1 then (if bt131.1 = (wrap64 (-bt127.1)) then (gimballaw1_FxOrder.l0 k x0 (wrap64 (x3 + 1))) else (some false)) else (some false)) else (some false))) else (some false))) else (some false))))))
end
def gimballaw1_FxOrder.f (k : Nat) (l0 : List (S24)) : Option (Bool) := gimballaw1_FxOrder.l0 k l0 0
theorem gimballaw1_FxOrder.mono_l : ∀ k, (∀ y0 y1, LeO (gimballaw1_FxOrder.l0 k y0 y1) (gimballaw1_FxOrder.l0 (k + 1) y0 y1)) ∧ (∀ y0 y1 y2, LeO (gimballaw1_FxOrder.j1 k y0 y1 y2) (gimballaw1_FxOrder.j1 (k + 1) y0 y1 y2)) ∧ (∀ y0 y1 y2 y3 y4 y5, LeO (gimballaw1_FxOrder.j2 k y0 y1 y2 y3 y4 y5) (gimballaw1_FxOrder.j2 (k + 1) y0 y1 y2 y3 y4 y5)) ∧ (∀ y0 y1 y2 y3 y4, LeO (gimballaw1_FxOrder.j3 k y0 y1 y2 y3 y4) (gimballaw1_FxOrder.j3 (k + 1) y0 y1 y2 y3 y4)) ∧ (∀ y0 y1 y2 y3 y4, LeO (gimballaw1_FxOrder.j4 k y0 y1 y2 y3 y4) (gimballaw1_FxOrder.j4 (k + 1) y0 y1 y2 y3 y4))
  | 0 => ⟨fun _ _ r h => by simp [gimballaw1_FxOrder.l0] at h, fun _ _ _ r h => by simp [gimballaw1_FxOrder.j1] at h, fun _ _ _ _ _ _ r h => by simp [gimballaw1_FxOrder.j2] at h, fun _ _ _ _ _ r h => by simp [gimballaw1_FxOrder.j3] at h, fun _ _ _ _ _ r h => by simp [gimballaw1_FxOrder.j4] at h⟩
  | k + 1 => by
    obtain ⟨ih0, ih1, ih2, ih3, ih4⟩ := gimballaw1_FxOrder.mono_l k
    refine ⟨?_, ?_, ?_, ?_, ?_⟩
    · intro y0 y1
      unfold gimballaw1_FxOrder.l0
      repeat' first
      | (with_reducible exact ih0 _ _)
      | (with_reducible exact ih1 _ _ _)
      | (with_reducible exact ih2 _ _ _ _ _ _)
      | (with_reducible exact ih3 _ _ _ _ _)
      | (with_reducible exact ih4 _ _ _ _ _)
      | (with_reducible exact LeO.refl _)
      | (with_reducible exact LeO.none _)
      | (with_reducible refine LeO.ite ?_ ?_)
      | (with_reducible refine LeO.bind ?_ (fun _ => ?_))
      | exact ih0 _ _
      | exact ih1 _ _ _
      | exact ih2 _ _ _ _ _ _
      | exact ih3 _ _ _ _ _
      | exact ih4 _ _ _ _ _
      | exact LeO.none _
      | refine LeO.ite ?_ ?_
      | refine LeO.bind ?_ (fun _ => ?_)
    · intro y0 y1 y2
      unfold gimballaw1_FxOrder.j1
      repeat' first
      | (with_reducible exact ih0 _ _)
      | (with_reducible exact ih1 _ _ _)
      | (with_reducible exact ih2 _ _ _ _ _ _)
      | (with_reducible exact ih3 _ _ _ _ _)
      | (with_reducible exact ih4 _ _ _ _ _)
      | (with_reducible exact LeO.refl _)
      | (with_reducible exact LeO.none _)
      | (with_reducible refine LeO.ite ?_ ?_)
      | (with_reducible refine LeO.bind ?_ (fun _ => ?_))
      | exact ih0 _ _
      | exact ih1 _ _ _
      | exact ih2 _ _ _ _ _ _
      | exact ih3 _ _ _ _ _
      | exact ih4 _ _ _ _ _
      | exact LeO.none _
      | refine LeO.ite ?_ ?_
      | refine LeO.bind ?_ (fun _ => ?_)
    · intro y0 y1 y2 y3 y4 y5
      unfold gimballaw1_FxOrder.j2
      repeat' first
      | (with_reducible exact ih0 _ _)
      | (with_reducible exact ih1 _ _ _)
      | (with_reducible exact ih2 _ _ _ _ _ _)
      | (with_reducible exact ih3 _ _ _ _ _)
      | (with_reducible exact ih4 _ _ _ _ _)
      | (with_reducible exact LeO.refl _)
      | (with_reducible exact LeO.none _)
      | (with_reducible refine LeO.ite ?_ ?_)
      | (with_reducible refine LeO.bind ?_ (fun _ => ?_))
      | exact ih0 _ _
      | exact ih1 _ _ _
      | exact ih2 _ _ _ _ _ _
      | exact ih3 _ _ _ _ _
      | exact ih4 _ _ _ _ _
      | exact LeO.none _
      | refine LeO.ite ?_ ?_
      | refine LeO.bind ?_ (fun _ => ?_)
    · intro y0 y1 y2 y3 y4
      unfold gimballaw1_FxOrder.j3
      repeat' first
      | (with_reducible exact ih0 _ _)
      | (with_reducible exact ih1 _ _ _)
      | (with_reducible exact ih2 _ _ _ _ _ _)
      | (with_reducible exact ih3 _ _ _ _ _)
      | (with_reducible exact ih4 _ _ _ _ _)
      | (with_reducible exact LeO.refl _)
      | (with_reducible exact LeO.none _)
      | (with_reducible refine LeO.ite ?_ ?_)
      | (with_reducible refine LeO.bind ?_ (fun _ => ?_))
      | exact ih0 _ _
      | exact ih1 _ _ _
      | exact ih2 _ _ _ _ _ _
      | exact ih3 _ _ _ _ _
      | exact ih4 _ _ _ _ _
      | exact LeO.none _
      | refine LeO.ite ?_ ?_
      | refine LeO.bind ?_ (fun _ => ?_)
    · intro y0 y1 y2 y3 y4
      unfold gimballaw1_FxOrder.j4
      repeat' first
      | (with_reducible exact ih0 _ _)
      | (with_reducible exact ih1 _ _ _)
      | (with_reducible exact ih2 _ _ _ _ _ _)
      | (with_reducible exact ih3 _ _ _ _ _)
      | (with_reducible exact ih4 _ _ _ _ _)
      | (with_reducible exact LeO.refl _)
      | (with_reducible exact LeO.none _)
      | (with_reducible refine LeO.ite ?_ ?_)
      | (with_reducible refine LeO.bind ?_ (fun _ => ?_))
      | exact ih0 _ _
      | exact ih1 _ _ _
      | exact ih2 _ _ _ _ _ _
      | exact ih3 _ _ _ _ _
      | exact ih4 _ _ _ _ _
      | exact LeO.none _
      | refine LeO.ite ?_ ?_
      | refine LeO.bind ?_ (fun _ => ?_)
theorem gimballaw1_FxOrder.mono : ∀ a0 k, LeO (gimballaw1_FxOrder.f k a0) (gimballaw1_FxOrder.f (k + 1) a0) := by
  intro a0 k
  obtain ⟨ih0, ih1, ih2, ih3, ih4⟩ := gimballaw1_FxOrder.mono_l k
  unfold gimballaw1_FxOrder.f
  repeat' first
      | (with_reducible exact ih0 _ _)
      | (with_reducible exact ih1 _ _ _)
      | (with_reducible exact ih2 _ _ _ _ _ _)
      | (with_reducible exact ih3 _ _ _ _ _)
      | (with_reducible exact ih4 _ _ _ _ _)
      | (with_reducible exact LeO.refl _)
      | (with_reducible exact LeO.none _)
      | (with_reducible refine LeO.ite ?_ ?_)
      | (with_reducible refine LeO.bind ?_ (fun _ => ?_))
      | exact ih0 _ _
      | exact ih1 _ _ _
      | exact ih2 _ _ _ _ _ _
      | exact ih3 _ _ _ _ _
      | exact ih4 _ _ _ _ _
      | exact LeO.none _
      | refine LeO.ite ?_ ?_
      | refine LeO.bind ?_ (fun _ => ?_)
set_option maxHeartbeats 8000000 in
set_option maxRecDepth 100000 in
theorem gimballaw1_FxOrder.calls (k : Nat) (A0 : Option Addr) (c0 : Nat) (l0 : List (S24)) (r : Bool) (w : World) (hr0 : Kd.C k24 w A0 l0.length l0) (hc0 : l0.length ≤ c0) (h : gimballaw1_FxOrder.f k l0 = some r) :
    Calls Try.prog 8 #[.slice A0 l0.length c0] w fun e w' => e = .returned (.bool r) ∧ Below w.heap.size w w' := by
  have HR0 := Aside0.mk hr0
  have HC0 := Aside0.mk hc0
  clear hr0 hc0
  have HB := Aside0.mk (Below.refl w.heap.size w)
  have H : (gimballaw1_FxOrder.l0 k l0 0) = some r := h
  clear h
  have H' := Aside0.mk H
  clear H
  go_enter Try.func8, Try.ntmps8
  go_wp2
  repeat (go_quiet (fail); try go_wp2)
  go_loopg [3] k (fun kq v3 w' => ∃ (x3_1 : Int), v3 = .int .i64 x3_1 ∧ Aside0 (gimballaw1_FxOrder.l0 kq l0 x3_1 = some r) ∧ Aside0 (kq ≤ k) ∧ Aside0 (Below w.heap.size w w'))
  case atStart => exact ⟨(0), (by first | rfl | (simp; done) | (simp [*]; done)), H', ⟨Nat.le_refl _⟩, ⟨by repeat (first | (with_reducible first | exact HB.out | apply below_alloc | apply pw_below_drewN | apply below_drew1) | exact HB.out)⟩⟩
  case round =>
    clear H'
    obtain ⟨x3_1, rfl, HA, HK1, HB⟩ := hrel
    cases gk with
    | zero => exact absurd HA.out (by simp [gimballaw1_FxOrder.l0])
    | succ k1 =>
      have H := HA.out
      clear HA
      simp only [gimballaw1_FxOrder.l0] at H
      have HC2 := Aside0.mk H
      clear H
      go_upto_region 2 with (fail)
      repeat (go_quiet (fail); go_upto_region 2 with (fail))
      go_cut [29] (fun v29 wc => ∃ (kq : Nat) (x29_1 : Bool), v29 = .bool x29_1 ∧ Aside0 (gimballaw1_FxOrder.j1 kq l0 x3_1 x29_1 = some r) ∧ Aside0 (kq ≤ k1) ∧ Aside0 (Below w.heap.size w wc))
      case first => as_aux_lemma =>
        have H := HC2.out
        clear HC2
        by_cases c3 : (wrap64 (x3_1 + 1)) < (l0.length : Int)
        · rw [if_pos c3] at H
          have c3b0 : decide ((wrap64 (x3_1 + 1)) < (l0.length : Int)) = true := decide_eq_true c3
          clear c3
          (first | rw [c3b0] | (simp only [i64_w, i32_w]; rw [c3b0]) | skip)
          have H' := Aside0.mk H
          clear H
          go_wp2
          repeat (go_quiet (fail); try go_wp2)
          go_meet
          case rel => exact ⟨_, (decide (x3_1 < 30)), (by first | rfl | (simp; done) | (simp [*]; done)), H', ⟨by have := HK1.out; first | omega | exact Nat.le_refl _⟩, ⟨by repeat (first | (with_reducible first | exact HB.out | apply below_alloc | apply pw_below_drewN | apply below_drew1) | exact HB.out)⟩⟩
        · rw [if_neg c3] at H
          have c3b0 : decide ((wrap64 (x3_1 + 1)) < (l0.length : Int)) = false := decide_eq_false c3
          clear c3
          (first | rw [c3b0] | (simp only [i64_w, i32_w]; rw [c3b0]) | skip)
          have H' := Aside0.mk H
          clear H
          go_wp2
          repeat (go_quiet (fail); try go_wp2)
          go_meet
          case rel => exact ⟨_, (false), (by first | rfl | (simp; done) | (simp [*]; done)), H', ⟨by have := HK1.out; first | omega | exact Nat.le_refl _⟩, ⟨by repeat (first | (with_reducible first | exact HB.out | apply below_alloc | apply pw_below_drewN | apply below_drew1) | exact HB.out)⟩⟩
      case rest => as_aux_lemma =>
        clear HC2
        try clear p2
        try clear c3
        try clear c3b0
        obtain ⟨kq, x29_1, rfl, HA, HJ1, HB⟩ := hcut
        cases kq with
        | zero => exact absurd HA.out (by simp [gimballaw1_FxOrder.j1])
        | succ kj1 =>
          have H := HA.out
          clear HA
          simp only [gimballaw1_FxOrder.j1] at H
          by_cases c4 : x29_1 = true
          · subst c4
            have H1 : (if 0 ≤ x3_1 then (if x3_1 < (l0.length : Int) then (if 0 ≤ (wrap64 (x3_1 + 1)) then (if (wrap64 (x3_1 + 1)) < (l0.length : Int) then ((gimbalref1_May.f ((rd_T24 l0 x3_1).f0)).bind fun t108 => (if t108 = true then ((gimbalref1_May.f ((rd_T24 l0 (wrap64 (x3_1 + 1))).f0)).bind fun t109 => (if t109 = true then ((gimbalref1_May.f ((rd_T24 l0 x3_1).f1)).bind fun t110 => (if t110 = true then (gimballaw1_FxOrder.j2 kj1 l0 x3_1 ((rd_T24 l0 x3_1).f0) ((rd_T24 l0 (wrap64 (x3_1 + 1))).f0) ((rd_T24 l0 x3_1).f1) (decide (((rd_T24 l0 x3_1).f1) ≤ 0))) else (gimballaw1_FxOrder.j2 kj1 l0 x3_1 ((rd_T24 l0 x3_1).f0) ((rd_T24 l0 (wrap64 (x3_1 + 1))).f0) ((rd_T24 l0 x3_1).f1) true))) else (gimballaw1_FxOrder.j2 kj1 l0 x3_1 ((rd_T24 l0 x3_1).f0) ((rd_T24 l0 (wrap64 (x3_1 + 1))).f0) ((rd_T24 l0 x3_1).f1) true))) else (gimballaw1_FxOrder.j2 kj1 l0 x3_1 ((rd_T24 l0 x3_1).f0) ((rd_T24 l0 (wrap64 (x3_1 + 1))).f0) ((rd_T24 l0 x3_1).f1) true))) else (none)) else (none)) else (none)) else (none)) = some r := by rw [if_pos rfl] at H; exact H
            clear H
            have H := H1
            clear H1
            by_cases c5 : 0 ≤ x3_1
            · rw [if_pos c5] at H
              have c5b0 : decide (0 ≤ x3_1) = true := decide_eq_true c5
              clear c5
              by_cases c6 : x3_1 < (l0.length : Int)
              · rw [if_pos c6] at H
                have c6b0 : decide (x3_1 < (l0.length : Int)) = true := decide_eq_true c6
                clear c6
                obtain ⟨ji7, hji7⟩ : ∃ j_ : Int, (wrap64 (x3_1 + 1)) = j_ := ⟨_, rfl⟩
                replace H : (if 0 ≤ (ji7) then (if (ji7) < (l0.length : Int) then ((gimbalref1_May.f ((rd_T24 l0 x3_1).f0)).bind fun t108 => (if t108 = true then ((gimbalref1_May.f ((rd_T24 l0 (ji7)).f0)).bind fun t109 => (if t109 = true then ((gimbalref1_May.f ((rd_T24 l0 x3_1).f1)).bind fun t110 => (if t110 = true then (gimballaw1_FxOrder.j2 kj1 l0 x3_1 ((rd_T24 l0 x3_1).f0) ((rd_T24 l0 (ji7)).f0) ((rd_T24 l0 x3_1).f1) (decide (((rd_T24 l0 x3_1).f1) ≤ 0))) else (gimballaw1_FxOrder.j2 kj1 l0 x3_1 ((rd_T24 l0 x3_1).f0) ((rd_T24 l0 (ji7)).f0) ((rd_T24 l0 x3_1).f1) true))) else (gimballaw1_FxOrder.j2 kj1 l0 x3_1 ((rd_T24 l0 x3_1).f0) ((rd_T24 l0 (ji7)).f0) ((rd_T24 l0 x3_1).f1) true))) else (gimballaw1_FxOrder.j2 kj1 l0 x3_1 ((rd_T24 l0 x3_1).f0) ((rd_T24 l0 (ji7)).f0) ((rd_T24 l0 x3_1).f1) true))) else (none)) else (none)) = some r := by first | (rw [hji7] at H; exact H) | (simp only [hji7] at H ⊢; exact H)
                have hji7w : (IntKind.i64.wrap (x3_1 + 1)) = ji7 := (i64_w _).trans hji7
                by_cases c8 : 0 ≤ (ji7)
                · rw [if_pos c8] at H
                  have c8b0 : decide (0 ≤ (ji7)) = true := decide_eq_true c8
                  clear c8
                  by_cases c9 : (ji7) < (l0.length : Int)
                  · rw [if_pos c9] at H
                    have c9b0 : decide ((ji7) < (l0.length : Int)) = true := decide_eq_true c9
                    clear c9
                    have HC10 := Aside0.mk H
                    clear H
                    have p105 : 0 ≤ (x3_1 : Int) := of_decide_eq_true (by first | (with_reducible assumption) | assumption)
                    have q105 : x3_1 < (l0.length : Int) := of_decide_eq_true (by first | (with_reducible assumption) | assumption)
                    obtain ⟨ad105, e105, hx105_0, hx105_1, hx105_2, hx105_3, hx105_4, hx105_5⟩ := at_T24 HR0.out x3_1 p105 q105
                    cases e105
                    replace hx105_0 := (HB.out.cell (World.block_lt_of_cell? w _ hx105_0)).trans hx105_0
                    replace hx105_1 := (HB.out.cell (World.block_lt_of_cell? w _ hx105_1)).trans hx105_1
                    replace hx105_2 := (HB.out.cell (World.block_lt_of_cell? w _ hx105_2)).trans hx105_2
                    replace hx105_3 := (HB.out.cell (World.block_lt_of_cell? w _ hx105_3)).trans hx105_3
                    replace hx105_4 := (HB.out.cell (World.block_lt_of_cell? w _ hx105_4)).trans hx105_4
                    replace hx105_5 := (HB.out.cell (World.block_lt_of_cell? w _ hx105_5)).trans hx105_5
                    replace p105 := eq_true p105
                    replace q105 := eq_true q105
                    have p106 : 0 ≤ ((ji7) : Int) := of_decide_eq_true (by first | (with_reducible assumption) | assumption)
                    have q106 : (ji7) < (l0.length : Int) := of_decide_eq_true (by first | (with_reducible assumption) | assumption)
                    obtain ⟨ad106, e106, hx106_0, hx106_1, hx106_2, hx106_3, hx106_4, hx106_5⟩ := at_T24 HR0.out (ji7) p106 q106
                    obtain rfl : ad105 = ad106 := (by injection e106)
                    replace hx106_0 := (HB.out.cell (World.block_lt_of_cell? w _ hx106_0)).trans hx106_0
                    replace hx106_1 := (HB.out.cell (World.block_lt_of_cell? w _ hx106_1)).trans hx106_1
                    replace hx106_2 := (HB.out.cell (World.block_lt_of_cell? w _ hx106_2)).trans hx106_2
                    replace hx106_3 := (HB.out.cell (World.block_lt_of_cell? w _ hx106_3)).trans hx106_3
                    replace hx106_4 := (HB.out.cell (World.block_lt_of_cell? w _ hx106_4)).trans hx106_4
                    replace hx106_5 := (HB.out.cell (World.block_lt_of_cell? w _ hx106_5)).trans hx106_5
                    replace p106 := eq_true p106
                    replace q106 := eq_true q106
                    have p107 : 0 ≤ (x3_1 : Int) := of_decide_eq_true (by first | (with_reducible assumption) | assumption)
                    have q107 : x3_1 < (l0.length : Int) := of_decide_eq_true (by first | (with_reducible assumption) | assumption)
                    obtain ⟨ad107, e107, hx107_0, hx107_1, hx107_2, hx107_3, hx107_4, hx107_5⟩ := at_T24 HR0.out x3_1 p107 q107
                    obtain rfl : ad105 = ad107 := (by injection e107)
                    replace hx107_0 := (HB.out.cell (World.block_lt_of_cell? w _ hx107_0)).trans hx107_0
                    replace hx107_1 := (HB.out.cell (World.block_lt_of_cell? w _ hx107_1)).trans hx107_1
                    replace hx107_2 := (HB.out.cell (World.block_lt_of_cell? w _ hx107_2)).trans hx107_2
                    replace hx107_3 := (HB.out.cell (World.block_lt_of_cell? w _ hx107_3)).trans hx107_3
                    replace hx107_4 := (HB.out.cell (World.block_lt_of_cell? w _ hx107_4)).trans hx107_4
                    replace hx107_5 := (HB.out.cell (World.block_lt_of_cell? w _ hx107_5)).trans hx107_5
                    replace p107 := eq_true p107
                    replace q107 := eq_true q107
                    go_upto_region 5 with (fail)
                    repeat (go_quiet (fail); go_upto_region 5 with (fail))
                    go_cut [64] (fun v64 wc => ∃ (kq : Nat) (x64_9 : Bool), v64 = .bool x64_9 ∧ Aside0 (gimballaw1_FxOrder.j2 kq l0 x3_1 ((rd_T24 l0 x3_1).f0) ((rd_T24 l0 (ji7)).f0) ((rd_T24 l0 x3_1).f1) x64_9 = some r) ∧ Aside0 (kq ≤ kj1) ∧ Aside0 (Below w.heap.size w wc))
                    case first => as_aux_lemma =>
                      have H := HC10.out
                      clear HC10
                      replace H := Option.bind_eq_some_iff.mp H
                      obtain ⟨t108, A110, H⟩ := H
                      replace H : (if t108 = true then ((gimbalref1_May.f ((rd_T24 l0 (ji7)).f0)).bind fun t109 => (if t109 = true then ((gimbalref1_May.f ((rd_T24 l0 x3_1).f1)).bind fun t110 => (if t110 = true then (gimballaw1_FxOrder.j2 kj1 l0 x3_1 ((rd_T24 l0 x3_1).f0) ((rd_T24 l0 (ji7)).f0) ((rd_T24 l0 x3_1).f1) (decide (((rd_T24 l0 x3_1).f1) ≤ 0))) else (gimballaw1_FxOrder.j2 kj1 l0 x3_1 ((rd_T24 l0 x3_1).f0) ((rd_T24 l0 (ji7)).f0) ((rd_T24 l0 x3_1).f1) true))) else (gimballaw1_FxOrder.j2 kj1 l0 x3_1 ((rd_T24 l0 x3_1).f0) ((rd_T24 l0 (ji7)).f0) ((rd_T24 l0 x3_1).f1) true))) else (gimballaw1_FxOrder.j2 kj1 l0 x3_1 ((rd_T24 l0 x3_1).f0) ((rd_T24 l0 (ji7)).f0) ((rd_T24 l0 x3_1).f1) true)) = some r := H
                      have A11 := Aside0.mk A110
                      clear A110
                      by_cases c12 : t108 = true
                      · subst c12
                        have H1 : ((gimbalref1_May.f ((rd_T24 l0 (ji7)).f0)).bind fun t109 => (if t109 = true then ((gimbalref1_May.f ((rd_T24 l0 x3_1).f1)).bind fun t110 => (if t110 = true then (gimballaw1_FxOrder.j2 kj1 l0 x3_1 ((rd_T24 l0 x3_1).f0) ((rd_T24 l0 (ji7)).f0) ((rd_T24 l0 x3_1).f1) (decide (((rd_T24 l0 x3_1).f1) ≤ 0))) else (gimballaw1_FxOrder.j2 kj1 l0 x3_1 ((rd_T24 l0 x3_1).f0) ((rd_T24 l0 (ji7)).f0) ((rd_T24 l0 x3_1).f1) true))) else (gimballaw1_FxOrder.j2 kj1 l0 x3_1 ((rd_T24 l0 x3_1).f0) ((rd_T24 l0 (ji7)).f0) ((rd_T24 l0 x3_1).f1) true))) = some r := by rw [if_pos rfl] at H; exact H
                        clear H
                        have H := H1
                        clear H1
                        replace H := Option.bind_eq_some_iff.mp H
                        obtain ⟨t109, A130, H⟩ := H
                        replace H : (if t109 = true then ((gimbalref1_May.f ((rd_T24 l0 x3_1).f1)).bind fun t110 => (if t110 = true then (gimballaw1_FxOrder.j2 kj1 l0 x3_1 ((rd_T24 l0 x3_1).f0) ((rd_T24 l0 (ji7)).f0) ((rd_T24 l0 x3_1).f1) (decide (((rd_T24 l0 x3_1).f1) ≤ 0))) else (gimballaw1_FxOrder.j2 kj1 l0 x3_1 ((rd_T24 l0 x3_1).f0) ((rd_T24 l0 (ji7)).f0) ((rd_T24 l0 x3_1).f1) true))) else (gimballaw1_FxOrder.j2 kj1 l0 x3_1 ((rd_T24 l0 x3_1).f0) ((rd_T24 l0 (ji7)).f0) ((rd_T24 l0 x3_1).f1) true)) = some r := H
                        have A13 := Aside0.mk A130
                        clear A130
                        by_cases c14 : t109 = true
                        · subst c14
                          have H1 : ((gimbalref1_May.f ((rd_T24 l0 x3_1).f1)).bind fun t110 => (if t110 = true then (gimballaw1_FxOrder.j2 kj1 l0 x3_1 ((rd_T24 l0 x3_1).f0) ((rd_T24 l0 (ji7)).f0) ((rd_T24 l0 x3_1).f1) (decide (((rd_T24 l0 x3_1).f1) ≤ 0))) else (gimballaw1_FxOrder.j2 kj1 l0 x3_1 ((rd_T24 l0 x3_1).f0) ((rd_T24 l0 (ji7)).f0) ((rd_T24 l0 x3_1).f1) true))) = some r := by rw [if_pos rfl] at H; exact H
                          clear H
                          have H := H1
                          clear H1
                          replace H := Option.bind_eq_some_iff.mp H
                          obtain ⟨t110, A150, H⟩ := H
                          replace H : (if t110 = true then (gimballaw1_FxOrder.j2 kj1 l0 x3_1 ((rd_T24 l0 x3_1).f0) ((rd_T24 l0 (ji7)).f0) ((rd_T24 l0 x3_1).f1) (decide (((rd_T24 l0 x3_1).f1) ≤ 0))) else (gimballaw1_FxOrder.j2 kj1 l0 x3_1 ((rd_T24 l0 x3_1).f0) ((rd_T24 l0 (ji7)).f0) ((rd_T24 l0 x3_1).f1) true)) = some r := H
                          have A15 := Aside0.mk A150
                          clear A150
                          by_cases c16 : t110 = true
                          · subst c16
                            have H1 : (gimballaw1_FxOrder.j2 kj1 l0 x3_1 ((rd_T24 l0 x3_1).f0) ((rd_T24 l0 (ji7)).f0) ((rd_T24 l0 x3_1).f1) (decide (((rd_T24 l0 x3_1).f1) ≤ 0))) = some r := by rw [if_pos rfl] at H; exact H
                            clear H
                            have H := H1
                            clear H1
                            have H' := Aside0.mk H
                            clear H
                            go_wp2_with (first | (go_at_call 14; (with_reducible refine (gimbalref1_May.calls ((rd_T24 l0 x3_1).f0) true _ A11.out).mono ?_); rintro e w' ⟨rfl, ⟨nd, rfl⟩⟩; (try first | exact ⟨rfl, _, World.drewN_drewN _ _ _⟩ | exact ⟨rfl, _, Eq.trans (World.drewN_drewN _ _ _) (congrArg (World.drewN _) (Nat.add_assoc _ _ _))⟩)) | (go_at_call 14; (with_reducible refine (gimbalref1_May.calls ((rd_T24 l0 (ji7)).f0) true _ A13.out).mono ?_); rintro e w' ⟨rfl, ⟨nd, rfl⟩⟩; (try first | exact ⟨rfl, _, World.drewN_drewN _ _ _⟩ | exact ⟨rfl, _, Eq.trans (World.drewN_drewN _ _ _) (congrArg (World.drewN _) (Nat.add_assoc _ _ _))⟩)) | (go_at_call 14; (with_reducible refine (gimbalref1_May.calls ((rd_T24 l0 x3_1).f1) true _ A15.out).mono ?_); rintro e w' ⟨rfl, ⟨nd, rfl⟩⟩; (try first | exact ⟨rfl, _, World.drewN_drewN _ _ _⟩ | exact ⟨rfl, _, Eq.trans (World.drewN_drewN _ _ _) (congrArg (World.drewN _) (Nat.add_assoc _ _ _))⟩)))
                            repeat (go_quiet (first | (go_at_call 14; (with_reducible refine (gimbalref1_May.calls ((rd_T24 l0 x3_1).f0) true _ A11.out).mono ?_); rintro e w' ⟨rfl, ⟨nd, rfl⟩⟩; (try first | exact ⟨rfl, _, World.drewN_drewN _ _ _⟩ | exact ⟨rfl, _, Eq.trans (World.drewN_drewN _ _ _) (congrArg (World.drewN _) (Nat.add_assoc _ _ _))⟩)) | (go_at_call 14; (with_reducible refine (gimbalref1_May.calls ((rd_T24 l0 (ji7)).f0) true _ A13.out).mono ?_); rintro e w' ⟨rfl, ⟨nd, rfl⟩⟩; (try first | exact ⟨rfl, _, World.drewN_drewN _ _ _⟩ | exact ⟨rfl, _, Eq.trans (World.drewN_drewN _ _ _) (congrArg (World.drewN _) (Nat.add_assoc _ _ _))⟩)) | (go_at_call 14; (with_reducible refine (gimbalref1_May.calls ((rd_T24 l0 x3_1).f1) true _ A15.out).mono ?_); rintro e w' ⟨rfl, ⟨nd, rfl⟩⟩; (try first | exact ⟨rfl, _, World.drewN_drewN _ _ _⟩ | exact ⟨rfl, _, Eq.trans (World.drewN_drewN _ _ _) (congrArg (World.drewN _) (Nat.add_assoc _ _ _))⟩))); try go_wp2_with (first | (go_at_call 14; (with_reducible refine (gimbalref1_May.calls ((rd_T24 l0 x3_1).f0) true _ A11.out).mono ?_); rintro e w' ⟨rfl, ⟨nd, rfl⟩⟩; (try first | exact ⟨rfl, _, World.drewN_drewN _ _ _⟩ | exact ⟨rfl, _, Eq.trans (World.drewN_drewN _ _ _) (congrArg (World.drewN _) (Nat.add_assoc _ _ _))⟩)) | (go_at_call 14; (with_reducible refine (gimbalref1_May.calls ((rd_T24 l0 (ji7)).f0) true _ A13.out).mono ?_); rintro e w' ⟨rfl, ⟨nd, rfl⟩⟩; (try first | exact ⟨rfl, _, World.drewN_drewN _ _ _⟩ | exact ⟨rfl, _, Eq.trans (World.drewN_drewN _ _ _) (congrArg (World.drewN _) (Nat.add_assoc _ _ _))⟩)) | (go_at_call 14; (with_reducible refine (gimbalref1_May.calls ((rd_T24 l0 x3_1).f1) true _ A15.out).mono ?_); rintro e w' ⟨rfl, ⟨nd, rfl⟩⟩; (try first | exact ⟨rfl, _, World.drewN_drewN _ _ _⟩ | exact ⟨rfl, _, Eq.trans (World.drewN_drewN _ _ _) (congrArg (World.drewN _) (Nat.add_assoc _ _ _))⟩))))
                            go_meet
                            case rel => exact ⟨_, (decide (((rd_T24 l0 x3_1).f1) ≤ 0)), (by first | rfl | (simp; done) | (simp [*]; done)), H', ⟨by have := HK1.out; have := HJ1.out; first | omega | exact Nat.le_refl _⟩, ⟨by repeat (first | (with_reducible first | exact HB.out | apply below_alloc | apply pw_below_drewN | apply below_drew1) | exact HB.out)⟩⟩
                          · replace c16 := Bool.eq_false_iff.mpr c16
                            subst c16
                            have H1 : (gimballaw1_FxOrder.j2 kj1 l0 x3_1 ((rd_T24 l0 x3_1).f0) ((rd_T24 l0 (ji7)).f0) ((rd_T24 l0 x3_1).f1) true) = some r := by rw [if_neg (show ¬ (false = true) by decide)] at H; exact H
                            clear H
                            have H := H1
                            clear H1
                            have H' := Aside0.mk H
                            clear H
                            go_wp2_with (first | (go_at_call 14; (with_reducible refine (gimbalref1_May.calls ((rd_T24 l0 x3_1).f0) true _ A11.out).mono ?_); rintro e w' ⟨rfl, ⟨nd, rfl⟩⟩; (try first | exact ⟨rfl, _, World.drewN_drewN _ _ _⟩ | exact ⟨rfl, _, Eq.trans (World.drewN_drewN _ _ _) (congrArg (World.drewN _) (Nat.add_assoc _ _ _))⟩)) | (go_at_call 14; (with_reducible refine (gimbalref1_May.calls ((rd_T24 l0 (ji7)).f0) true _ A13.out).mono ?_); rintro e w' ⟨rfl, ⟨nd, rfl⟩⟩; (try first | exact ⟨rfl, _, World.drewN_drewN _ _ _⟩ | exact ⟨rfl, _, Eq.trans (World.drewN_drewN _ _ _) (congrArg (World.drewN _) (Nat.add_assoc _ _ _))⟩)) | (go_at_call 14; (with_reducible refine (gimbalref1_May.calls ((rd_T24 l0 x3_1).f1) false _ A15.out).mono ?_); rintro e w' ⟨rfl, ⟨nd, rfl⟩⟩; (try first | exact ⟨rfl, _, World.drewN_drewN _ _ _⟩ | exact ⟨rfl, _, Eq.trans (World.drewN_drewN _ _ _) (congrArg (World.drewN _) (Nat.add_assoc _ _ _))⟩)))
                            repeat (go_quiet (first | (go_at_call 14; (with_reducible refine (gimbalref1_May.calls ((rd_T24 l0 x3_1).f0) true _ A11.out).mono ?_); rintro e w' ⟨rfl, ⟨nd, rfl⟩⟩; (try first | exact ⟨rfl, _, World.drewN_drewN _ _ _⟩ | exact ⟨rfl, _, Eq.trans (World.drewN_drewN _ _ _) (congrArg (World.drewN _) (Nat.add_assoc _ _ _))⟩)) | (go_at_call 14; (with_reducible refine (gimbalref1_May.calls ((rd_T24 l0 (ji7)).f0) true _ A13.out).mono ?_); rintro e w' ⟨rfl, ⟨nd, rfl⟩⟩; (try first | exact ⟨rfl, _, World.drewN_drewN _ _ _⟩ | exact ⟨rfl, _, Eq.trans (World.drewN_drewN _ _ _) (congrArg (World.drewN _) (Nat.add_assoc _ _ _))⟩)) | (go_at_call 14; (with_reducible refine (gimbalref1_May.calls ((rd_T24 l0 x3_1).f1) false _ A15.out).mono ?_); rintro e w' ⟨rfl, ⟨nd, rfl⟩⟩; (try first | exact ⟨rfl, _, World.drewN_drewN _ _ _⟩ | exact ⟨rfl, _, Eq.trans (World.drewN_drewN _ _ _) (congrArg (World.drewN _) (Nat.add_assoc _ _ _))⟩))); try go_wp2_with (first | (go_at_call 14; (with_reducible refine (gimbalref1_May.calls ((rd_T24 l0 x3_1).f0) true _ A11.out).mono ?_); rintro e w' ⟨rfl, ⟨nd, rfl⟩⟩; (try first | exact ⟨rfl, _, World.drewN_drewN _ _ _⟩ | exact ⟨rfl, _, Eq.trans (World.drewN_drewN _ _ _) (congrArg (World.drewN _) (Nat.add_assoc _ _ _))⟩)) | (go_at_call 14; (with_reducible refine (gimbalref1_May.calls ((rd_T24 l0 (ji7)).f0) true _ A13.out).mono ?_); rintro e w' ⟨rfl, ⟨nd, rfl⟩⟩; (try first | exact ⟨rfl, _, World.drewN_drewN _ _ _⟩ | exact ⟨rfl, _, Eq.trans (World.drewN_drewN _ _ _) (congrArg (World.drewN _) (Nat.add_assoc _ _ _))⟩)) | (go_at_call 14; (with_reducible refine (gimbalref1_May.calls ((rd_T24 l0 x3_1).f1) false _ A15.out).mono ?_); rintro e w' ⟨rfl, ⟨nd, rfl⟩⟩; (try first | exact ⟨rfl, _, World.drewN_drewN _ _ _⟩ | exact ⟨rfl, _, Eq.trans (World.drewN_drewN _ _ _) (congrArg (World.drewN _) (Nat.add_assoc _ _ _))⟩))))
                            go_meet
                            case rel => exact ⟨_, (true), (by first | rfl | (simp; done) | (simp [*]; done)), H', ⟨by have := HK1.out; have := HJ1.out; first | omega | exact Nat.le_refl _⟩, ⟨by repeat (first | (with_reducible first | exact HB.out | apply below_alloc | apply pw_below_drewN | apply below_drew1) | exact HB.out)⟩⟩
                        · replace c14 := Bool.eq_false_iff.mpr c14
                          subst c14
                          have H1 : (gimballaw1_FxOrder.j2 kj1 l0 x3_1 ((rd_T24 l0 x3_1).f0) ((rd_T24 l0 (ji7)).f0) ((rd_T24 l0 x3_1).f1) true) = some r := by rw [if_neg (show ¬ (false = true) by decide)] at H; exact H
                          clear H
                          have H := H1
                          clear H1
                          have H' := Aside0.mk H
                          clear H
                          go_wp2_with (first | (go_at_call 14; (with_reducible refine (gimbalref1_May.calls ((rd_T24 l0 x3_1).f0) true _ A11.out).mono ?_); rintro e w' ⟨rfl, ⟨nd, rfl⟩⟩; (try first | exact ⟨rfl, _, World.drewN_drewN _ _ _⟩ | exact ⟨rfl, _, Eq.trans (World.drewN_drewN _ _ _) (congrArg (World.drewN _) (Nat.add_assoc _ _ _))⟩)) | (go_at_call 14; (with_reducible refine (gimbalref1_May.calls ((rd_T24 l0 (ji7)).f0) false _ A13.out).mono ?_); rintro e w' ⟨rfl, ⟨nd, rfl⟩⟩; (try first | exact ⟨rfl, _, World.drewN_drewN _ _ _⟩ | exact ⟨rfl, _, Eq.trans (World.drewN_drewN _ _ _) (congrArg (World.drewN _) (Nat.add_assoc _ _ _))⟩)))
                          repeat (go_quiet (first | (go_at_call 14; (with_reducible refine (gimbalref1_May.calls ((rd_T24 l0 x3_1).f0) true _ A11.out).mono ?_); rintro e w' ⟨rfl, ⟨nd, rfl⟩⟩; (try first | exact ⟨rfl, _, World.drewN_drewN _ _ _⟩ | exact ⟨rfl, _, Eq.trans (World.drewN_drewN _ _ _) (congrArg (World.drewN _) (Nat.add_assoc _ _ _))⟩)) | (go_at_call 14; (with_reducible refine (gimbalref1_May.calls ((rd_T24 l0 (ji7)).f0) false _ A13.out).mono ?_); rintro e w' ⟨rfl, ⟨nd, rfl⟩⟩; (try first | exact ⟨rfl, _, World.drewN_drewN _ _ _⟩ | exact ⟨rfl, _, Eq.trans (World.drewN_drewN _ _ _) (congrArg (World.drewN _) (Nat.add_assoc _ _ _))⟩))); try go_wp2_with (first | (go_at_call 14; (with_reducible refine (gimbalref1_May.calls ((rd_T24 l0 x3_1).f0) true _ A11.out).mono ?_); rintro e w' ⟨rfl, ⟨nd, rfl⟩⟩; (try first | exact ⟨rfl, _, World.drewN_drewN _ _ _⟩ | exact ⟨rfl, _, Eq.trans (World.drewN_drewN _ _ _) (congrArg (World.drewN _) (Nat.add_assoc _ _ _))⟩)) | (go_at_call 14; (with_reducible refine (gimbalref1_May.calls ((rd_T24 l0 (ji7)).f0) false _ A13.out).mono ?_); rintro e w' ⟨rfl, ⟨nd, rfl⟩⟩; (try first | exact ⟨rfl, _, World.drewN_drewN _ _ _⟩ | exact ⟨rfl, _, Eq.trans (World.drewN_drewN _ _ _) (congrArg (World.drewN _) (Nat.add_assoc _ _ _))⟩))))
                          go_meet
                          case rel => exact ⟨_, (true), (by first | rfl | (simp; done) | (simp [*]; done)), H', ⟨by have := HK1.out; have := HJ1.out; first | omega | exact Nat.le_refl _⟩, ⟨by repeat (first | (with_reducible first | exact HB.out | apply below_alloc | apply pw_below_drewN | apply below_drew1) | exact HB.out)⟩⟩
                      · replace c12 := Bool.eq_false_iff.mpr c12
                        subst c12
                        have H1 : (gimballaw1_FxOrder.j2 kj1 l0 x3_1 ((rd_T24 l0 x3_1).f0) ((rd_T24 l0 (ji7)).f0) ((rd_T24 l0 x3_1).f1) true) = some r := by rw [if_neg (show ¬ (false = true) by decide)] at H; exact H
                        clear H
                        have H := H1
                        clear H1
                        have H' := Aside0.mk H
                        clear H
                        go_wp2_with (first | (go_at_call 14; (with_reducible refine (gimbalref1_May.calls ((rd_T24 l0 x3_1).f0) false _ A11.out).mono ?_); rintro e w' ⟨rfl, ⟨nd, rfl⟩⟩; (try first | exact ⟨rfl, _, World.drewN_drewN _ _ _⟩ | exact ⟨rfl, _, Eq.trans (World.drewN_drewN _ _ _) (congrArg (World.drewN _) (Nat.add_assoc _ _ _))⟩)))
                        repeat (go_quiet (first | (go_at_call 14; (with_reducible refine (gimbalref1_May.calls ((rd_T24 l0 x3_1).f0) false _ A11.out).mono ?_); rintro e w' ⟨rfl, ⟨nd, rfl⟩⟩; (try first | exact ⟨rfl, _, World.drewN_drewN _ _ _⟩ | exact ⟨rfl, _, Eq.trans (World.drewN_drewN _ _ _) (congrArg (World.drewN _) (Nat.add_assoc _ _ _))⟩))); try go_wp2_with (first | (go_at_call 14; (with_reducible refine (gimbalref1_May.calls ((rd_T24 l0 x3_1).f0) false _ A11.out).mono ?_); rintro e w' ⟨rfl, ⟨nd, rfl⟩⟩; (try first | exact ⟨rfl, _, World.drewN_drewN _ _ _⟩ | exact ⟨rfl, _, Eq.trans (World.drewN_drewN _ _ _) (congrArg (World.drewN _) (Nat.add_assoc _ _ _))⟩))))
                        go_meet
                        case rel => exact ⟨_, (true), (by first | rfl | (simp; done) | (simp [*]; done)), H', ⟨by have := HK1.out; have := HJ1.out; first | omega | exact Nat.le_refl _⟩, ⟨by repeat (first | (with_reducible first | exact HB.out | apply below_alloc | apply pw_below_drewN | apply below_drew1) | exact HB.out)⟩⟩
                    case rest => as_aux_lemma =>
                      clear HC10
                      try clear c1
                      try clear p1
                      try clear q1
                      try clear hx1
                      try clear p2
                      try clear c3
                      try clear c3b0
                      try clear c4
                      try clear c5
                      try clear c5b0
                      try clear c6
                      try clear c6b0
                      try clear p6
                      try clear c8
                      try clear c8b0
                      try clear c9
                      try clear c9b0
                      try clear p10
                      try clear q10
                      try clear hx10
                      try clear c12
                      try clear c14
                      try clear c16
                      try clear hx105_0
                      try clear hx105_1
                      try clear hx105_2
                      try clear hx105_3
                      try clear hx105_4
                      try clear hx105_5
                      try clear hx106_0
                      try clear hx106_1
                      try clear hx106_2
                      try clear hx106_3
                      try clear hx106_4
                      try clear hx106_5
                      try clear hx107_0
                      try clear hx107_1
                      try clear hx107_2
                      try clear hx107_3
                      try clear hx107_4
                      try clear hx107_5
                      try clear p105
                      try clear p106
                      try clear p107
                      try clear p2
                      try clear q105
                      try clear q106
                      try clear q107
                      obtain ⟨kq, x64_9, rfl, HA, HJ9, HB⟩ := hcut
                      cases kq with
                      | zero => exact absurd HA.out (by simp [gimballaw1_FxOrder.j2])
                      | succ kj9 =>
                        have H := HA.out
                        clear HA
                        simp only [gimballaw1_FxOrder.j2] at H
                        by_cases c17 : x64_9 = true
                        · subst c17
                          have H1 : (gimballaw1_FxOrder.l0 kj9 l0 (wrap64 (x3_1 + 1))) = some r := by rw [if_pos rfl] at H; exact H
                          clear H
                          have H := H1
                          clear H1
                          have H' := Aside0.mk H
                          clear H
                          go_wp2
                          repeat (go_quiet (fail); try go_wp2)
                          go_roundg kj9
                          case measure => have := HK1.out; have := HJ1.out; have := HJ9.out; omega
                          case rel => exact ⟨(wrap64 (x3_1 + 1)), (by first | rfl | (simp; done) | (simp [*]; done)), H', ⟨by have := HK1.out; have := HJ1.out; have := HJ9.out; omega⟩, ⟨by repeat (first | (with_reducible first | exact HB.out | apply below_alloc | apply pw_below_drewN | apply below_drew1) | exact HB.out)⟩⟩
                        · replace c17 := Bool.eq_false_iff.mpr c17
                          subst c17
                          have H1 : (if ((rd_T24 l0 x3_1).f0) > ((rd_T24 l0 (ji7)).f0) then (gimballaw1_FxOrder.j3 kj9 l0 x3_1 ((rd_T24 l0 (ji7)).f0) ((rd_T24 l0 x3_1).f0) ((rd_T24 l0 x3_1).f1)) else (gimballaw1_FxOrder.j3 kj9 l0 x3_1 ((rd_T24 l0 x3_1).f0) ((rd_T24 l0 (ji7)).f0) ((rd_T24 l0 x3_1).f1))) = some r := by rw [if_neg (show ¬ (false = true) by decide)] at H; exact H
                          clear H
                          have H := H1
                          clear H1
                          have HC18 := Aside0.mk H
                          clear H
                          go_upto_if 67 with (fail)
                          repeat (go_quiet (fail); go_upto_if 67 with (fail))
                          go_cut [4, 5] (fun v4 v5 wc => ∃ (kq : Nat) (x4_17 : Int) (x5_17 : Int), v4 = .int .i64 x4_17 ∧ v5 = .int .i64 x5_17 ∧ Aside0 (gimballaw1_FxOrder.j3 kq l0 x3_1 x4_17 x5_17 ((rd_T24 l0 x3_1).f1) = some r) ∧ Aside0 (kq ≤ kj9) ∧ Aside0 (Below w.heap.size w wc))
                          case first => as_aux_lemma =>
                            have H := HC18.out
                            clear HC18
                            by_cases c19 : ((rd_T24 l0 x3_1).f0) > ((rd_T24 l0 (ji7)).f0)
                            · rw [if_pos c19] at H
                              have c19b0 : decide (((rd_T24 l0 (ji7)).f0) < ((rd_T24 l0 x3_1).f0)) = true := decide_eq_true c19
                              clear c19
                              (first | rw [c19b0] | (simp only [i64_w, i32_w]; rw [c19b0]) | skip)
                              have H' := Aside0.mk H
                              clear H
                              go_wp2
                              repeat (go_quiet (fail); try go_wp2)
                              go_meet
                              case rel => exact ⟨_, (((rd_T24 l0 (ji7)).f0)), (((rd_T24 l0 x3_1).f0)), (by first | rfl | (simp; done) | (simp only [← hji7] <;> (first | rfl | simp)) | (simp [*]; done)), (by first | rfl | (simp; done) | (simp [*]; done)), H', ⟨by have := HK1.out; have := HJ1.out; have := HJ9.out; first | omega | exact Nat.le_refl _⟩, ⟨by repeat (first | (with_reducible first | exact HB.out | apply below_alloc | apply pw_below_drewN | apply below_drew1) | exact HB.out)⟩⟩
                            · rw [if_neg c19] at H
                              have c19b0 : decide (((rd_T24 l0 (ji7)).f0) < ((rd_T24 l0 x3_1).f0)) = false := decide_eq_false c19
                              clear c19
                              (first | rw [c19b0] | (simp only [i64_w, i32_w]; rw [c19b0]) | skip)
                              have H' := Aside0.mk H
                              clear H
                              go_wp2
                              repeat (go_quiet (fail); try go_wp2)
                              go_meet
                              case rel => exact ⟨_, (((rd_T24 l0 x3_1).f0)), (((rd_T24 l0 (ji7)).f0)), (by first | rfl | (simp; done) | (simp [*]; done)), (by first | rfl | (simp; done) | (simp only [← hji7] <;> (first | rfl | simp)) | (simp [*]; done)), H', ⟨by have := HK1.out; have := HJ1.out; have := HJ9.out; first | omega | exact Nat.le_refl _⟩, ⟨by repeat (first | (with_reducible first | exact HB.out | apply below_alloc | apply pw_below_drewN | apply below_drew1) | exact HB.out)⟩⟩
                          case rest => as_aux_lemma =>
                            clear HC18
                            try clear c1
                            try clear p1
                            try clear q1
                            try clear hx1
                            try clear p2
                            try clear c3
                            try clear c3b0
                            try clear c4
                            try clear c5
                            try clear c5b0
                            try clear c6
                            try clear c6b0
                            try clear p6
                            try clear c8
                            try clear c8b0
                            try clear c9
                            try clear c9b0
                            try clear p10
                            try clear q10
                            try clear hx10
                            try clear c12
                            try clear c14
                            try clear c16
                            try clear c17
                            try clear c19
                            try clear c19b0
                            try clear hx105_0
                            try clear hx105_1
                            try clear hx105_2
                            try clear hx105_3
                            try clear hx105_4
                            try clear hx105_5
                            try clear hx106_0
                            try clear hx106_1
                            try clear hx106_2
                            try clear hx106_3
                            try clear hx106_4
                            try clear hx106_5
                            try clear hx107_0
                            try clear hx107_1
                            try clear hx107_2
                            try clear hx107_3
                            try clear hx107_4
                            try clear hx107_5
                            try clear p1
                            try clear p10
                            try clear p105
                            try clear p106
                            try clear p107
                            try clear p2
                            try clear p6
                            try clear q1
                            try clear q10
                            try clear q105
                            try clear q106
                            try clear q107
                            obtain ⟨kq, x4_17, x5_17, rfl, rfl, HA, HJ17, HB⟩ := hcut
                            cases kq with
                            | zero => exact absurd HA.out (by simp [gimballaw1_FxOrder.j3])
                            | succ kj17 =>
                              have H := HA.out
                              clear HA
                              simp only [gimballaw1_FxOrder.j3] at H
                              replace H := Option.bind_eq_some_iff.mp H
                              obtain ⟨⟨t111, t112⟩, A200, H⟩ := H
                              replace H : ((fx_Mul.f x5_17 ((rd_T24 l0 x3_1).f1)).bind fun bt113 => ((fx_Div.f x4_17 ((rd_T24 l0 x3_1).f1)).bind fun bt115 => ((fx_Div.f x5_17 ((rd_T24 l0 x3_1).f1)).bind fun bt117 => ((gimballaw1_num.f t112).bind fun t119 => (if t119 = 0 then ((gimballaw1_num.f bt113.2).bind fun t120 => (if t120 = 0 then (if t111 > bt113.1 then (gimballaw1_FxOrder.j4 kj17 l0 x3_1 x4_17 ((rd_T24 l0 x3_1).f1) true) else ((gimballaw1_num.f bt115.2).bind fun t121 => (if t121 = 0 then ((gimballaw1_num.f bt117.2).bind fun t122 => (if t122 = 0 then (gimballaw1_FxOrder.j4 kj17 l0 x3_1 x4_17 ((rd_T24 l0 x3_1).f1) (decide (bt115.1 > bt117.1))) else (gimballaw1_FxOrder.j4 kj17 l0 x3_1 x4_17 ((rd_T24 l0 x3_1).f1) false))) else (gimballaw1_FxOrder.j4 kj17 l0 x3_1 x4_17 ((rd_T24 l0 x3_1).f1) false)))) else ((gimballaw1_num.f bt115.2).bind fun t123 => (if t123 = 0 then ((gimballaw1_num.f bt117.2).bind fun t124 => (if t124 = 0 then (gimballaw1_FxOrder.j4 kj17 l0 x3_1 x4_17 ((rd_T24 l0 x3_1).f1) (decide (bt115.1 > bt117.1))) else (gimballaw1_FxOrder.j4 kj17 l0 x3_1 x4_17 ((rd_T24 l0 x3_1).f1) false))) else (gimballaw1_FxOrder.j4 kj17 l0 x3_1 x4_17 ((rd_T24 l0 x3_1).f1) false))))) else ((gimballaw1_num.f bt115.2).bind fun t125 => (if t125 = 0 then ((gimballaw1_num.f bt117.2).bind fun t126 => (if t126 = 0 then (gimballaw1_FxOrder.j4 kj17 l0 x3_1 x4_17 ((rd_T24 l0 x3_1).f1) (decide (bt115.1 > bt117.1))) else (gimballaw1_FxOrder.j4 kj17 l0 x3_1 x4_17 ((rd_T24 l0 x3_1).f1) false))) else (gimballaw1_FxOrder.j4 kj17 l0 x3_1 x4_17 ((rd_T24 l0 x3_1).f1) false)))))))) = some r := H
                              have A20 := Aside0.mk A200
                              clear A200
                              replace H := Option.bind_eq_some_iff.mp H
                              obtain ⟨⟨t113, t114⟩, A210, H⟩ := H
                              replace H : ((fx_Div.f x4_17 ((rd_T24 l0 x3_1).f1)).bind fun bt115 => ((fx_Div.f x5_17 ((rd_T24 l0 x3_1).f1)).bind fun bt117 => ((gimballaw1_num.f t112).bind fun t119 => (if t119 = 0 then ((gimballaw1_num.f t114).bind fun t120 => (if t120 = 0 then (if t111 > t113 then (gimballaw1_FxOrder.j4 kj17 l0 x3_1 x4_17 ((rd_T24 l0 x3_1).f1) true) else ((gimballaw1_num.f bt115.2).bind fun t121 => (if t121 = 0 then ((gimballaw1_num.f bt117.2).bind fun t122 => (if t122 = 0 then (gimballaw1_FxOrder.j4 kj17 l0 x3_1 x4_17 ((rd_T24 l0 x3_1).f1) (decide (bt115.1 > bt117.1))) else (gimballaw1_FxOrder.j4 kj17 l0 x3_1 x4_17 ((rd_T24 l0 x3_1).f1) false))) else (gimballaw1_FxOrder.j4 kj17 l0 x3_1 x4_17 ((rd_T24 l0 x3_1).f1) false)))) else ((gimballaw1_num.f bt115.2).bind fun t123 => (if t123 = 0 then ((gimballaw1_num.f bt117.2).bind fun t124 => (if t124 = 0 then (gimballaw1_FxOrder.j4 kj17 l0 x3_1 x4_17 ((rd_T24 l0 x3_1).f1) (decide (bt115.1 > bt117.1))) else (gimballaw1_FxOrder.j4 kj17 l0 x3_1 x4_17 ((rd_T24 l0 x3_1).f1) false))) else (gimballaw1_FxOrder.j4 kj17 l0 x3_1 x4_17 ((rd_T24 l0 x3_1).f1) false))))) else ((gimballaw1_num.f bt115.2).bind fun t125 => (if t125 = 0 then ((gimballaw1_num.f bt117.2).bind fun t126 => (if t126 = 0 then (gimballaw1_FxOrder.j4 kj17 l0 x3_1 x4_17 ((rd_T24 l0 x3_1).f1) (decide (bt115.1 > bt117.1))) else (gimballaw1_FxOrder.j4 kj17 l0 x3_1 x4_17 ((rd_T24 l0 x3_1).f1) false))) else (gimballaw1_FxOrder.j4 kj17 l0 x3_1 x4_17 ((rd_T24 l0 x3_1).f1) false))))))) = some r := H
                              have A21 := Aside0.mk A210
                              clear A210
                              replace H := Option.bind_eq_some_iff.mp H
                              obtain ⟨⟨t115, t116⟩, A220, H⟩ := H
                              replace H : ((fx_Div.f x5_17 ((rd_T24 l0 x3_1).f1)).bind fun bt117 => ((gimballaw1_num.f t112).bind fun t119 => (if t119 = 0 then ((gimballaw1_num.f t114).bind fun t120 => (if t120 = 0 then (if t111 > t113 then (gimballaw1_FxOrder.j4 kj17 l0 x3_1 x4_17 ((rd_T24 l0 x3_1).f1) true) else ((gimballaw1_num.f t116).bind fun t121 => (if t121 = 0 then ((gimballaw1_num.f bt117.2).bind fun t122 => (if t122 = 0 then (gimballaw1_FxOrder.j4 kj17 l0 x3_1 x4_17 ((rd_T24 l0 x3_1).f1) (decide (t115 > bt117.1))) else (gimballaw1_FxOrder.j4 kj17 l0 x3_1 x4_17 ((rd_T24 l0 x3_1).f1) false))) else (gimballaw1_FxOrder.j4 kj17 l0 x3_1 x4_17 ((rd_T24 l0 x3_1).f1) false)))) else ((gimballaw1_num.f t116).bind fun t123 => (if t123 = 0 then ((gimballaw1_num.f bt117.2).bind fun t124 => (if t124 = 0 then (gimballaw1_FxOrder.j4 kj17 l0 x3_1 x4_17 ((rd_T24 l0 x3_1).f1) (decide (t115 > bt117.1))) else (gimballaw1_FxOrder.j4 kj17 l0 x3_1 x4_17 ((rd_T24 l0 x3_1).f1) false))) else (gimballaw1_FxOrder.j4 kj17 l0 x3_1 x4_17 ((rd_T24 l0 x3_1).f1) false))))) else ((gimballaw1_num.f t116).bind fun t125 => (if t125 = 0 then ((gimballaw1_num.f bt117.2).bind fun t126 => (if t126 = 0 then (gimballaw1_FxOrder.j4 kj17 l0 x3_1 x4_17 ((rd_T24 l0 x3_1).f1) (decide (t115 > bt117.1))) else (gimballaw1_FxOrder.j4 kj17 l0 x3_1 x4_17 ((rd_T24 l0 x3_1).f1) false))) else (gimballaw1_FxOrder.j4 kj17 l0 x3_1 x4_17 ((rd_T24 l0 x3_1).f1) false)))))) = some r := H
                              have A22 := Aside0.mk A220
                              clear A220
                              replace H := Option.bind_eq_some_iff.mp H
                              obtain ⟨⟨t117, t118⟩, A230, H⟩ := H
                              replace H : ((gimballaw1_num.f t112).bind fun t119 => (if t119 = 0 then ((gimballaw1_num.f t114).bind fun t120 => (if t120 = 0 then (if t111 > t113 then (gimballaw1_FxOrder.j4 kj17 l0 x3_1 x4_17 ((rd_T24 l0 x3_1).f1) true) else ((gimballaw1_num.f t116).bind fun t121 => (if t121 = 0 then ((gimballaw1_num.f t118).bind fun t122 => (if t122 = 0 then (gimballaw1_FxOrder.j4 kj17 l0 x3_1 x4_17 ((rd_T24 l0 x3_1).f1) (decide (t115 > t117))) else (gimballaw1_FxOrder.j4 kj17 l0 x3_1 x4_17 ((rd_T24 l0 x3_1).f1) false))) else (gimballaw1_FxOrder.j4 kj17 l0 x3_1 x4_17 ((rd_T24 l0 x3_1).f1) false)))) else ((gimballaw1_num.f t116).bind fun t123 => (if t123 = 0 then ((gimballaw1_num.f t118).bind fun t124 => (if t124 = 0 then (gimballaw1_FxOrder.j4 kj17 l0 x3_1 x4_17 ((rd_T24 l0 x3_1).f1) (decide (t115 > t117))) else (gimballaw1_FxOrder.j4 kj17 l0 x3_1 x4_17 ((rd_T24 l0 x3_1).f1) false))) else (gimballaw1_FxOrder.j4 kj17 l0 x3_1 x4_17 ((rd_T24 l0 x3_1).f1) false))))) else ((gimballaw1_num.f t116).bind fun t125 => (if t125 = 0 then ((gimballaw1_num.f t118).bind fun t126 => (if t126 = 0 then (gimballaw1_FxOrder.j4 kj17 l0 x3_1 x4_17 ((rd_T24 l0 x3_1).f1) (decide (t115 > t117))) else (gimballaw1_FxOrder.j4 kj17 l0 x3_1 x4_17 ((rd_T24 l0 x3_1).f1) false))) else (gimballaw1_FxOrder.j4 kj17 l0 x3_1 x4_17 ((rd_T24 l0 x3_1).f1) false))))) = some r := H
                              have A23 := Aside0.mk A230
                              clear A230
                              have HC24 := Aside0.mk H
                              clear H
                              go_upto_region 12 with (first | (go_at_call 13; (with_reducible refine (fx_Mul.calls x4_17 ((rd_T24 l0 x3_1).f1) t111 t112 _ A20.out).mono ?_); rintro e w25 ⟨rfl, hb⟩; have n0_ := Aside0.mk (below_step (by repeat (first | (with_reducible first | exact HB.out | apply below_alloc | apply pw_below_drewN | apply below_drew1) | exact HB.out)) hb); clear HB; have HB := n0_; clear n0_; (try clear hb); (try clear hb2); (try clear hk); (try clear hi)) | (go_at_call 13; (with_reducible refine (fx_Mul.calls x5_17 ((rd_T24 l0 x3_1).f1) t113 t114 _ A21.out).mono ?_); rintro e w26 ⟨rfl, hb⟩; have n0_ := Aside0.mk (below_step (by repeat (first | (with_reducible first | exact HB.out | apply below_alloc | apply pw_below_drewN | apply below_drew1) | exact HB.out)) hb); clear HB; have HB := n0_; clear n0_; (try clear hb); (try clear hb2); (try clear hk); (try clear hi)) | (go_at_call 24; (with_reducible refine (fx_Div.calls x4_17 ((rd_T24 l0 x3_1).f1) t115 t116 _ A22.out).mono ?_); rintro e w27 ⟨rfl, hb⟩; have n0_ := Aside0.mk (below_step (by repeat (first | (with_reducible first | exact HB.out | apply below_alloc | apply pw_below_drewN | apply below_drew1) | exact HB.out)) hb); clear HB; have HB := n0_; clear n0_; (try clear hb); (try clear hb2); (try clear hk); (try clear hi)) | (go_at_call 24; (with_reducible refine (fx_Div.calls x5_17 ((rd_T24 l0 x3_1).f1) t117 t118 _ A23.out).mono ?_); rintro e w28 ⟨rfl, hb⟩; have n0_ := Aside0.mk (below_step (by repeat (first | (with_reducible first | exact HB.out | apply below_alloc | apply pw_below_drewN | apply below_drew1) | exact HB.out)) hb); clear HB; have HB := n0_; clear n0_; (try clear hb); (try clear hb2); (try clear hk); (try clear hi)))
                              repeat (go_quiet (first | (go_at_call 13; (with_reducible refine (fx_Mul.calls x4_17 ((rd_T24 l0 x3_1).f1) t111 t112 _ A20.out).mono ?_); rintro e w25 ⟨rfl, hb⟩; have n0_ := Aside0.mk (below_step (by repeat (first | (with_reducible first | exact HB.out | apply below_alloc | apply pw_below_drewN | apply below_drew1) | exact HB.out)) hb); clear HB; have HB := n0_; clear n0_; (try clear hb); (try clear hb2); (try clear hk); (try clear hi)) | (go_at_call 13; (with_reducible refine (fx_Mul.calls x5_17 ((rd_T24 l0 x3_1).f1) t113 t114 _ A21.out).mono ?_); rintro e w26 ⟨rfl, hb⟩; have n0_ := Aside0.mk (below_step (by repeat (first | (with_reducible first | exact HB.out | apply below_alloc | apply pw_below_drewN | apply below_drew1) | exact HB.out)) hb); clear HB; have HB := n0_; clear n0_; (try clear hb); (try clear hb2); (try clear hk); (try clear hi)) | (go_at_call 24; (with_reducible refine (fx_Div.calls x4_17 ((rd_T24 l0 x3_1).f1) t115 t116 _ A22.out).mono ?_); rintro e w27 ⟨rfl, hb⟩; have n0_ := Aside0.mk (below_step (by repeat (first | (with_reducible first | exact HB.out | apply below_alloc | apply pw_below_drewN | apply below_drew1) | exact HB.out)) hb); clear HB; have HB := n0_; clear n0_; (try clear hb); (try clear hb2); (try clear hk); (try clear hi)) | (go_at_call 24; (with_reducible refine (fx_Div.calls x5_17 ((rd_T24 l0 x3_1).f1) t117 t118 _ A23.out).mono ?_); rintro e w28 ⟨rfl, hb⟩; have n0_ := Aside0.mk (below_step (by repeat (first | (with_reducible first | exact HB.out | apply below_alloc | apply pw_below_drewN | apply below_drew1) | exact HB.out)) hb); clear HB; have HB := n0_; clear n0_; (try clear hb); (try clear hb2); (try clear hk); (try clear hi))); go_upto_region 12 with (first | (go_at_call 13; (with_reducible refine (fx_Mul.calls x4_17 ((rd_T24 l0 x3_1).f1) t111 t112 _ A20.out).mono ?_); rintro e w25 ⟨rfl, hb⟩; have n0_ := Aside0.mk (below_step (by repeat (first | (with_reducible first | exact HB.out | apply below_alloc | apply pw_below_drewN | apply below_drew1) | exact HB.out)) hb); clear HB; have HB := n0_; clear n0_; (try clear hb); (try clear hb2); (try clear hk); (try clear hi)) | (go_at_call 13; (with_reducible refine (fx_Mul.calls x5_17 ((rd_T24 l0 x3_1).f1) t113 t114 _ A21.out).mono ?_); rintro e w26 ⟨rfl, hb⟩; have n0_ := Aside0.mk (below_step (by repeat (first | (with_reducible first | exact HB.out | apply below_alloc | apply pw_below_drewN | apply below_drew1) | exact HB.out)) hb); clear HB; have HB := n0_; clear n0_; (try clear hb); (try clear hb2); (try clear hk); (try clear hi)) | (go_at_call 24; (with_reducible refine (fx_Div.calls x4_17 ((rd_T24 l0 x3_1).f1) t115 t116 _ A22.out).mono ?_); rintro e w27 ⟨rfl, hb⟩; have n0_ := Aside0.mk (below_step (by repeat (first | (with_reducible first | exact HB.out | apply below_alloc | apply pw_below_drewN | apply below_drew1) | exact HB.out)) hb); clear HB; have HB := n0_; clear n0_; (try clear hb); (try clear hb2); (try clear hk); (try clear hi)) | (go_at_call 24; (with_reducible refine (fx_Div.calls x5_17 ((rd_T24 l0 x3_1).f1) t117 t118 _ A23.out).mono ?_); rintro e w28 ⟨rfl, hb⟩; have n0_ := Aside0.mk (below_step (by repeat (first | (with_reducible first | exact HB.out | apply below_alloc | apply pw_below_drewN | apply below_drew1) | exact HB.out)) hb); clear HB; have HB := n0_; clear n0_; (try clear hb); (try clear hb2); (try clear hk); (try clear hi))))
                              (try simp only [Act.put, List.setIfInBounds_toArray, List.set_cons_zero, List.set_cons_succ])
                              go_cut [121] (fun v121 wc => ∃ (kq : Nat) (x121_23 : Bool), v121 = .bool x121_23 ∧ Aside0 (gimballaw1_FxOrder.j4 kq l0 x3_1 x4_17 ((rd_T24 l0 x3_1).f1) x121_23 = some r) ∧ Aside0 (kq ≤ kj17) ∧ Aside0 (Below w.heap.size w wc))
                              case first => as_aux_lemma =>
                                have H := HC24.out
                                clear HC24
                                replace H := Option.bind_eq_some_iff.mp H
                                obtain ⟨t119, A290, H⟩ := H
                                replace H : (if t119 = 0 then ((gimballaw1_num.f t114).bind fun t120 => (if t120 = 0 then (if t111 > t113 then (gimballaw1_FxOrder.j4 kj17 l0 x3_1 x4_17 ((rd_T24 l0 x3_1).f1) true) else ((gimballaw1_num.f t116).bind fun t121 => (if t121 = 0 then ((gimballaw1_num.f t118).bind fun t122 => (if t122 = 0 then (gimballaw1_FxOrder.j4 kj17 l0 x3_1 x4_17 ((rd_T24 l0 x3_1).f1) (decide (t115 > t117))) else (gimballaw1_FxOrder.j4 kj17 l0 x3_1 x4_17 ((rd_T24 l0 x3_1).f1) false))) else (gimballaw1_FxOrder.j4 kj17 l0 x3_1 x4_17 ((rd_T24 l0 x3_1).f1) false)))) else ((gimballaw1_num.f t116).bind fun t123 => (if t123 = 0 then ((gimballaw1_num.f t118).bind fun t124 => (if t124 = 0 then (gimballaw1_FxOrder.j4 kj17 l0 x3_1 x4_17 ((rd_T24 l0 x3_1).f1) (decide (t115 > t117))) else (gimballaw1_FxOrder.j4 kj17 l0 x3_1 x4_17 ((rd_T24 l0 x3_1).f1) false))) else (gimballaw1_FxOrder.j4 kj17 l0 x3_1 x4_17 ((rd_T24 l0 x3_1).f1) false))))) else ((gimballaw1_num.f t116).bind fun t125 => (if t125 = 0 then ((gimballaw1_num.f t118).bind fun t126 => (if t126 = 0 then (gimballaw1_FxOrder.j4 kj17 l0 x3_1 x4_17 ((rd_T24 l0 x3_1).f1) (decide (t115 > t117))) else (gimballaw1_FxOrder.j4 kj17 l0 x3_1 x4_17 ((rd_T24 l0 x3_1).f1) false))) else (gimballaw1_FxOrder.j4 kj17 l0 x3_1 x4_17 ((rd_T24 l0 x3_1).f1) false)))) = some r := H
                                have A29 := Aside0.mk A290
                                clear A290
                                by_cases c30 : t119 = 0
                                · rw [if_pos c30] at H
                                  have c30b0 : (t119 == 0) = true := beq_iff_eq.mpr c30
                                  have c30b1 : (t119 != 0) = false := bne_eq_false_iff_eq.mpr c30
                                  clear c30
                                  (first | rw [c30b0] | (simp only [i64_w, i32_w]; rw [c30b0]) | skip)
                                  replace H := Option.bind_eq_some_iff.mp H
                                  obtain ⟨t120, A310, H⟩ := H
                                  replace H : (if t120 = 0 then (if t111 > t113 then (gimballaw1_FxOrder.j4 kj17 l0 x3_1 x4_17 ((rd_T24 l0 x3_1).f1) true) else ((gimballaw1_num.f t116).bind fun t121 => (if t121 = 0 then ((gimballaw1_num.f t118).bind fun t122 => (if t122 = 0 then (gimballaw1_FxOrder.j4 kj17 l0 x3_1 x4_17 ((rd_T24 l0 x3_1).f1) (decide (t115 > t117))) else (gimballaw1_FxOrder.j4 kj17 l0 x3_1 x4_17 ((rd_T24 l0 x3_1).f1) false))) else (gimballaw1_FxOrder.j4 kj17 l0 x3_1 x4_17 ((rd_T24 l0 x3_1).f1) false)))) else ((gimballaw1_num.f t116).bind fun t123 => (if t123 = 0 then ((gimballaw1_num.f t118).bind fun t124 => (if t124 = 0 then (gimballaw1_FxOrder.j4 kj17 l0 x3_1 x4_17 ((rd_T24 l0 x3_1).f1) (decide (t115 > t117))) else (gimballaw1_FxOrder.j4 kj17 l0 x3_1 x4_17 ((rd_T24 l0 x3_1).f1) false))) else (gimballaw1_FxOrder.j4 kj17 l0 x3_1 x4_17 ((rd_T24 l0 x3_1).f1) false)))) = some r := H
                                  have A31 := Aside0.mk A310
                                  clear A310
                                  by_cases c32 : t120 = 0
                                  · rw [if_pos c32] at H
                                    have c32b0 : (t120 == 0) = true := beq_iff_eq.mpr c32
                                    have c32b1 : (t120 != 0) = false := bne_eq_false_iff_eq.mpr c32
                                    clear c32
                                    by_cases c33 : t111 > t113
                                    · rw [if_pos c33] at H
                                      have c33b0 : decide (t113 < t111) = true := decide_eq_true c33
                                      clear c33
                                      have H' := Aside0.mk H
                                      clear H
                                      go_wp2_with (first | (go_at_call 19; (with_reducible refine (gimballaw1_num.calls t112 t119 _ A29.out).mono ?_); rintro e w' ⟨rfl, ⟨nd, rfl⟩⟩; (try first | exact ⟨rfl, _, World.drewN_drewN _ _ _⟩ | exact ⟨rfl, _, Eq.trans (World.drewN_drewN _ _ _) (congrArg (World.drewN _) (Nat.add_assoc _ _ _))⟩)) | (go_at_call 19; (with_reducible refine (gimballaw1_num.calls t114 t120 _ A31.out).mono ?_); rintro e w' ⟨rfl, ⟨nd, rfl⟩⟩; (try first | exact ⟨rfl, _, World.drewN_drewN _ _ _⟩ | exact ⟨rfl, _, Eq.trans (World.drewN_drewN _ _ _) (congrArg (World.drewN _) (Nat.add_assoc _ _ _))⟩)))
                                      repeat (go_quiet (first | (go_at_call 19; (with_reducible refine (gimballaw1_num.calls t112 t119 _ A29.out).mono ?_); rintro e w' ⟨rfl, ⟨nd, rfl⟩⟩; (try first | exact ⟨rfl, _, World.drewN_drewN _ _ _⟩ | exact ⟨rfl, _, Eq.trans (World.drewN_drewN _ _ _) (congrArg (World.drewN _) (Nat.add_assoc _ _ _))⟩)) | (go_at_call 19; (with_reducible refine (gimballaw1_num.calls t114 t120 _ A31.out).mono ?_); rintro e w' ⟨rfl, ⟨nd, rfl⟩⟩; (try first | exact ⟨rfl, _, World.drewN_drewN _ _ _⟩ | exact ⟨rfl, _, Eq.trans (World.drewN_drewN _ _ _) (congrArg (World.drewN _) (Nat.add_assoc _ _ _))⟩))); try go_wp2_with (first | (go_at_call 19; (with_reducible refine (gimballaw1_num.calls t112 t119 _ A29.out).mono ?_); rintro e w' ⟨rfl, ⟨nd, rfl⟩⟩; (try first | exact ⟨rfl, _, World.drewN_drewN _ _ _⟩ | exact ⟨rfl, _, Eq.trans (World.drewN_drewN _ _ _) (congrArg (World.drewN _) (Nat.add_assoc _ _ _))⟩)) | (go_at_call 19; (with_reducible refine (gimballaw1_num.calls t114 t120 _ A31.out).mono ?_); rintro e w' ⟨rfl, ⟨nd, rfl⟩⟩; (try first | exact ⟨rfl, _, World.drewN_drewN _ _ _⟩ | exact ⟨rfl, _, Eq.trans (World.drewN_drewN _ _ _) (congrArg (World.drewN _) (Nat.add_assoc _ _ _))⟩))))
                                      go_meet
                                      case rel => exact ⟨_, (true), (by first | rfl | (simp; done) | (simp [*]; done)), H', ⟨by have := HK1.out; have := HJ1.out; have := HJ9.out; have := HJ17.out; first | omega | exact Nat.le_refl _⟩, ⟨by repeat (first | (with_reducible first | exact HB.out | apply below_alloc | apply pw_below_drewN | apply below_drew1) | exact HB.out)⟩⟩
                                    · rw [if_neg c33] at H
                                      have c33b0 : decide (t113 < t111) = false := decide_eq_false c33
                                      clear c33
                                      replace H := Option.bind_eq_some_iff.mp H
                                      obtain ⟨t121, A340, H⟩ := H
                                      replace H : (if t121 = 0 then ((gimballaw1_num.f t118).bind fun t122 => (if t122 = 0 then (gimballaw1_FxOrder.j4 kj17 l0 x3_1 x4_17 ((rd_T24 l0 x3_1).f1) (decide (t115 > t117))) else (gimballaw1_FxOrder.j4 kj17 l0 x3_1 x4_17 ((rd_T24 l0 x3_1).f1) false))) else (gimballaw1_FxOrder.j4 kj17 l0 x3_1 x4_17 ((rd_T24 l0 x3_1).f1) false)) = some r := H
                                      have A34 := Aside0.mk A340
                                      clear A340
                                      by_cases c35 : t121 = 0
                                      · rw [if_pos c35] at H
                                        have c35b0 : (t121 == 0) = true := beq_iff_eq.mpr c35
                                        have c35b1 : (t121 != 0) = false := bne_eq_false_iff_eq.mpr c35
                                        clear c35
                                        replace H := Option.bind_eq_some_iff.mp H
                                        obtain ⟨t122, A360, H⟩ := H
                                        replace H : (if t122 = 0 then (gimballaw1_FxOrder.j4 kj17 l0 x3_1 x4_17 ((rd_T24 l0 x3_1).f1) (decide (t115 > t117))) else (gimballaw1_FxOrder.j4 kj17 l0 x3_1 x4_17 ((rd_T24 l0 x3_1).f1) false)) = some r := H
                                        have A36 := Aside0.mk A360
                                        clear A360
                                        by_cases c37 : t122 = 0
                                        · rw [if_pos c37] at H
                                          have c37b0 : (t122 == 0) = true := beq_iff_eq.mpr c37
                                          have c37b1 : (t122 != 0) = false := bne_eq_false_iff_eq.mpr c37
                                          clear c37
                                          have H' := Aside0.mk H
                                          clear H
                                          go_wp2_with (first | (go_at_call 19; (with_reducible refine (gimballaw1_num.calls t112 t119 _ A29.out).mono ?_); rintro e w' ⟨rfl, ⟨nd, rfl⟩⟩; (try first | exact ⟨rfl, _, World.drewN_drewN _ _ _⟩ | exact ⟨rfl, _, Eq.trans (World.drewN_drewN _ _ _) (congrArg (World.drewN _) (Nat.add_assoc _ _ _))⟩)) | (go_at_call 19; (with_reducible refine (gimballaw1_num.calls t114 t120 _ A31.out).mono ?_); rintro e w' ⟨rfl, ⟨nd, rfl⟩⟩; (try first | exact ⟨rfl, _, World.drewN_drewN _ _ _⟩ | exact ⟨rfl, _, Eq.trans (World.drewN_drewN _ _ _) (congrArg (World.drewN _) (Nat.add_assoc _ _ _))⟩)) | (go_at_call 19; (with_reducible refine (gimballaw1_num.calls t116 t121 _ A34.out).mono ?_); rintro e w' ⟨rfl, ⟨nd, rfl⟩⟩; (try first | exact ⟨rfl, _, World.drewN_drewN _ _ _⟩ | exact ⟨rfl, _, Eq.trans (World.drewN_drewN _ _ _) (congrArg (World.drewN _) (Nat.add_assoc _ _ _))⟩)) | (go_at_call 19; (with_reducible refine (gimballaw1_num.calls t118 t122 _ A36.out).mono ?_); rintro e w' ⟨rfl, ⟨nd, rfl⟩⟩; (try first | exact ⟨rfl, _, World.drewN_drewN _ _ _⟩ | exact ⟨rfl, _, Eq.trans (World.drewN_drewN _ _ _) (congrArg (World.drewN _) (Nat.add_assoc _ _ _))⟩)))
                                          repeat (go_quiet (first | (go_at_call 19; (with_reducible refine (gimballaw1_num.calls t112 t119 _ A29.out).mono ?_); rintro e w' ⟨rfl, ⟨nd, rfl⟩⟩; (try first | exact ⟨rfl, _, World.drewN_drewN _ _ _⟩ | exact ⟨rfl, _, Eq.trans (World.drewN_drewN _ _ _) (congrArg (World.drewN _) (Nat.add_assoc _ _ _))⟩)) | (go_at_call 19; (with_reducible refine (gimballaw1_num.calls t114 t120 _ A31.out).mono ?_); rintro e w' ⟨rfl, ⟨nd, rfl⟩⟩; (try first | exact ⟨rfl, _, World.drewN_drewN _ _ _⟩ | exact ⟨rfl, _, Eq.trans (World.drewN_drewN _ _ _) (congrArg (World.drewN _) (Nat.add_assoc _ _ _))⟩)) | (go_at_call 19; (with_reducible refine (gimballaw1_num.calls t116 t121 _ A34.out).mono ?_); rintro e w' ⟨rfl, ⟨nd, rfl⟩⟩; (try first | exact ⟨rfl, _, World.drewN_drewN _ _ _⟩ | exact ⟨rfl, _, Eq.trans (World.drewN_drewN _ _ _) (congrArg (World.drewN _) (Nat.add_assoc _ _ _))⟩)) | (go_at_call 19; (with_reducible refine (gimballaw1_num.calls t118 t122 _ A36.out).mono ?_); rintro e w' ⟨rfl, ⟨nd, rfl⟩⟩; (try first | exact ⟨rfl, _, World.drewN_drewN _ _ _⟩ | exact ⟨rfl, _, Eq.trans (World.drewN_drewN _ _ _) (congrArg (World.drewN _) (Nat.add_assoc _ _ _))⟩))); try go_wp2_with (first | (go_at_call 19; (with_reducible refine (gimballaw1_num.calls t112 t119 _ A29.out).mono ?_); rintro e w' ⟨rfl, ⟨nd, rfl⟩⟩; (try first | exact ⟨rfl, _, World.drewN_drewN _ _ _⟩ | exact ⟨rfl, _, Eq.trans (World.drewN_drewN _ _ _) (congrArg (World.drewN _) (Nat.add_assoc _ _ _))⟩)) | (go_at_call 19; (with_reducible refine (gimballaw1_num.calls t114 t120 _ A31.out).mono ?_); rintro e w' ⟨rfl, ⟨nd, rfl⟩⟩; (try first | exact ⟨rfl, _, World.drewN_drewN _ _ _⟩ | exact ⟨rfl, _, Eq.trans (World.drewN_drewN _ _ _) (congrArg (World.drewN _) (Nat.add_assoc _ _ _))⟩)) | (go_at_call 19; (with_reducible refine (gimballaw1_num.calls t116 t121 _ A34.out).mono ?_); rintro e w' ⟨rfl, ⟨nd, rfl⟩⟩; (try first | exact ⟨rfl, _, World.drewN_drewN _ _ _⟩ | exact ⟨rfl, _, Eq.trans (World.drewN_drewN _ _ _) (congrArg (World.drewN _) (Nat.add_assoc _ _ _))⟩)) | (go_at_call 19; (with_reducible refine (gimballaw1_num.calls t118 t122 _ A36.out).mono ?_); rintro e w' ⟨rfl, ⟨nd, rfl⟩⟩; (try first | exact ⟨rfl, _, World.drewN_drewN _ _ _⟩ | exact ⟨rfl, _, Eq.trans (World.drewN_drewN _ _ _) (congrArg (World.drewN _) (Nat.add_assoc _ _ _))⟩))))
                                          go_meet
                                          case rel => exact ⟨_, (decide (t115 > t117)), (by first | rfl | (simp; done) | (simp [*]; done)), H', ⟨by have := HK1.out; have := HJ1.out; have := HJ9.out; have := HJ17.out; first | omega | exact Nat.le_refl _⟩, ⟨by repeat (first | (with_reducible first | exact HB.out | apply below_alloc | apply pw_below_drewN | apply below_drew1) | exact HB.out)⟩⟩
                                        · rw [if_neg c37] at H
                                          have c37b0 : (t122 == 0) = false := beq_eq_false_iff_ne.mpr c37
                                          have c37b1 : (t122 != 0) = true := bne_iff_ne.mpr c37
                                          have H' := Aside0.mk H
                                          clear H
                                          go_wp2_with (first | (go_at_call 19; (with_reducible refine (gimballaw1_num.calls t112 t119 _ A29.out).mono ?_); rintro e w' ⟨rfl, ⟨nd, rfl⟩⟩; (try first | exact ⟨rfl, _, World.drewN_drewN _ _ _⟩ | exact ⟨rfl, _, Eq.trans (World.drewN_drewN _ _ _) (congrArg (World.drewN _) (Nat.add_assoc _ _ _))⟩)) | (go_at_call 19; (with_reducible refine (gimballaw1_num.calls t114 t120 _ A31.out).mono ?_); rintro e w' ⟨rfl, ⟨nd, rfl⟩⟩; (try first | exact ⟨rfl, _, World.drewN_drewN _ _ _⟩ | exact ⟨rfl, _, Eq.trans (World.drewN_drewN _ _ _) (congrArg (World.drewN _) (Nat.add_assoc _ _ _))⟩)) | (go_at_call 19; (with_reducible refine (gimballaw1_num.calls t116 t121 _ A34.out).mono ?_); rintro e w' ⟨rfl, ⟨nd, rfl⟩⟩; (try first | exact ⟨rfl, _, World.drewN_drewN _ _ _⟩ | exact ⟨rfl, _, Eq.trans (World.drewN_drewN _ _ _) (congrArg (World.drewN _) (Nat.add_assoc _ _ _))⟩)) | (go_at_call 19; (with_reducible refine (gimballaw1_num.calls t118 t122 _ A36.out).mono ?_); rintro e w' ⟨rfl, ⟨nd, rfl⟩⟩; (try first | exact ⟨rfl, _, World.drewN_drewN _ _ _⟩ | exact ⟨rfl, _, Eq.trans (World.drewN_drewN _ _ _) (congrArg (World.drewN _) (Nat.add_assoc _ _ _))⟩)))
                                          repeat (go_quiet (first | (go_at_call 19; (with_reducible refine (gimballaw1_num.calls t112 t119 _ A29.out).mono ?_); rintro e w' ⟨rfl, ⟨nd, rfl⟩⟩; (try first | exact ⟨rfl, _, World.drewN_drewN _ _ _⟩ | exact ⟨rfl, _, Eq.trans (World.drewN_drewN _ _ _) (congrArg (World.drewN _) (Nat.add_assoc _ _ _))⟩)) | (go_at_call 19; (with_reducible refine (gimballaw1_num.calls t114 t120 _ A31.out).mono ?_); rintro e w' ⟨rfl, ⟨nd, rfl⟩⟩; (try first | exact ⟨rfl, _, World.drewN_drewN _ _ _⟩ | exact ⟨rfl, _, Eq.trans (World.drewN_drewN _ _ _) (congrArg (World.drewN _) (Nat.add_assoc _ _ _))⟩)) | (go_at_call 19; (with_reducible refine (gimballaw1_num.calls t116 t121 _ A34.out).mono ?_); rintro e w' ⟨rfl, ⟨nd, rfl⟩⟩; (try first | exact ⟨rfl, _, World.drewN_drewN _ _ _⟩ | exact ⟨rfl, _, Eq.trans (World.drewN_drewN _ _ _) (congrArg (World.drewN _) (Nat.add_assoc _ _ _))⟩)) | (go_at_call 19; (with_reducible refine (gimballaw1_num.calls t118 t122 _ A36.out).mono ?_); rintro e w' ⟨rfl, ⟨nd, rfl⟩⟩; (try first | exact ⟨rfl, _, World.drewN_drewN _ _ _⟩ | exact ⟨rfl, _, Eq.trans (World.drewN_drewN _ _ _) (congrArg (World.drewN _) (Nat.add_assoc _ _ _))⟩))); try go_wp2_with (first | (go_at_call 19; (with_reducible refine (gimballaw1_num.calls t112 t119 _ A29.out).mono ?_); rintro e w' ⟨rfl, ⟨nd, rfl⟩⟩; (try first | exact ⟨rfl, _, World.drewN_drewN _ _ _⟩ | exact ⟨rfl, _, Eq.trans (World.drewN_drewN _ _ _) (congrArg (World.drewN _) (Nat.add_assoc _ _ _))⟩)) | (go_at_call 19; (with_reducible refine (gimballaw1_num.calls t114 t120 _ A31.out).mono ?_); rintro e w' ⟨rfl, ⟨nd, rfl⟩⟩; (try first | exact ⟨rfl, _, World.drewN_drewN _ _ _⟩ | exact ⟨rfl, _, Eq.trans (World.drewN_drewN _ _ _) (congrArg (World.drewN _) (Nat.add_assoc _ _ _))⟩)) | (go_at_call 19; (with_reducible refine (gimballaw1_num.calls t116 t121 _ A34.out).mono ?_); rintro e w' ⟨rfl, ⟨nd, rfl⟩⟩; (try first | exact ⟨rfl, _, World.drewN_drewN _ _ _⟩ | exact ⟨rfl, _, Eq.trans (World.drewN_drewN _ _ _) (congrArg (World.drewN _) (Nat.add_assoc _ _ _))⟩)) | (go_at_call 19; (with_reducible refine (gimballaw1_num.calls t118 t122 _ A36.out).mono ?_); rintro e w' ⟨rfl, ⟨nd, rfl⟩⟩; (try first | exact ⟨rfl, _, World.drewN_drewN _ _ _⟩ | exact ⟨rfl, _, Eq.trans (World.drewN_drewN _ _ _) (congrArg (World.drewN _) (Nat.add_assoc _ _ _))⟩))))
                                          go_meet
                                          case rel => exact ⟨_, (false), (by first | rfl | (simp; done) | (simp [*]; done)), H', ⟨by have := HK1.out; have := HJ1.out; have := HJ9.out; have := HJ17.out; first | omega | exact Nat.le_refl _⟩, ⟨by repeat (first | (with_reducible first | exact HB.out | apply below_alloc | apply pw_below_drewN | apply below_drew1) | exact HB.out)⟩⟩
                                      · rw [if_neg c35] at H
                                        have c35b0 : (t121 == 0) = false := beq_eq_false_iff_ne.mpr c35
                                        have c35b1 : (t121 != 0) = true := bne_iff_ne.mpr c35
                                        have H' := Aside0.mk H
                                        clear H
                                        go_wp2_with (first | (go_at_call 19; (with_reducible refine (gimballaw1_num.calls t112 t119 _ A29.out).mono ?_); rintro e w' ⟨rfl, ⟨nd, rfl⟩⟩; (try first | exact ⟨rfl, _, World.drewN_drewN _ _ _⟩ | exact ⟨rfl, _, Eq.trans (World.drewN_drewN _ _ _) (congrArg (World.drewN _) (Nat.add_assoc _ _ _))⟩)) | (go_at_call 19; (with_reducible refine (gimballaw1_num.calls t114 t120 _ A31.out).mono ?_); rintro e w' ⟨rfl, ⟨nd, rfl⟩⟩; (try first | exact ⟨rfl, _, World.drewN_drewN _ _ _⟩ | exact ⟨rfl, _, Eq.trans (World.drewN_drewN _ _ _) (congrArg (World.drewN _) (Nat.add_assoc _ _ _))⟩)) | (go_at_call 19; (with_reducible refine (gimballaw1_num.calls t116 t121 _ A34.out).mono ?_); rintro e w' ⟨rfl, ⟨nd, rfl⟩⟩; (try first | exact ⟨rfl, _, World.drewN_drewN _ _ _⟩ | exact ⟨rfl, _, Eq.trans (World.drewN_drewN _ _ _) (congrArg (World.drewN _) (Nat.add_assoc _ _ _))⟩)))
                                        repeat (go_quiet (first | (go_at_call 19; (with_reducible refine (gimballaw1_num.calls t112 t119 _ A29.out).mono ?_); rintro e w' ⟨rfl, ⟨nd, rfl⟩⟩; (try first | exact ⟨rfl, _, World.drewN_drewN _ _ _⟩ | exact ⟨rfl, _, Eq.trans (World.drewN_drewN _ _ _) (congrArg (World.drewN _) (Nat.add_assoc _ _ _))⟩)) | (go_at_call 19; (with_reducible refine (gimballaw1_num.calls t114 t120 _ A31.out).mono ?_); rintro e w' ⟨rfl, ⟨nd, rfl⟩⟩; (try first | exact ⟨rfl, _, World.drewN_drewN _ _ _⟩ | exact ⟨rfl, _, Eq.trans (World.drewN_drewN _ _ _) (congrArg (World.drewN _) (Nat.add_assoc _ _ _))⟩)) | (go_at_call 19; (with_reducible refine (gimballaw1_num.calls t116 t121 _ A34.out).mono ?_); rintro e w' ⟨rfl, ⟨nd, rfl⟩⟩; (try first | exact ⟨rfl, _, World.drewN_drewN _ _ _⟩ | exact ⟨rfl, _, Eq.trans (World.drewN_drewN _ _ _) (congrArg (World.drewN _) (Nat.add_assoc _ _ _))⟩))); try go_wp2_with (first | (go_at_call 19; (with_reducible refine (gimballaw1_num.calls t112 t119 _ A29.out).mono ?_); rintro e w' ⟨rfl, ⟨nd, rfl⟩⟩; (try first | exact ⟨rfl, _, World.drewN_drewN _ _ _⟩ | exact ⟨rfl, _, Eq.trans (World.drewN_drewN _ _ _) (congrArg (World.drewN _) (Nat.add_assoc _ _ _))⟩)) | (go_at_call 19; (with_reducible refine (gimballaw1_num.calls t114 t120 _ A31.out).mono ?_); rintro e w' ⟨rfl, ⟨nd, rfl⟩⟩; (try first | exact ⟨rfl, _, World.drewN_drewN _ _ _⟩ | exact ⟨rfl, _, Eq.trans (World.drewN_drewN _ _ _) (congrArg (World.drewN _) (Nat.add_assoc _ _ _))⟩)) | (go_at_call 19; (with_reducible refine (gimballaw1_num.calls t116 t121 _ A34.out).mono ?_); rintro e w' ⟨rfl, ⟨nd, rfl⟩⟩; (try first | exact ⟨rfl, _, World.drewN_drewN _ _ _⟩ | exact ⟨rfl, _, Eq.trans (World.drewN_drewN _ _ _) (congrArg (World.drewN _) (Nat.add_assoc _ _ _))⟩))))
                                        go_meet
                                        case rel => exact ⟨_, (false), (by first | rfl | (simp; done) | (simp [*]; done)), H', ⟨by have := HK1.out; have := HJ1.out; have := HJ9.out; have := HJ17.out; first | omega | exact Nat.le_refl _⟩, ⟨by repeat (first | (with_reducible first | exact HB.out | apply below_alloc | apply pw_below_drewN | apply below_drew1) | exact HB.out)⟩⟩
                                  · rw [if_neg c32] at H
                                    have c32b0 : (t120 == 0) = false := beq_eq_false_iff_ne.mpr c32
                                    have c32b1 : (t120 != 0) = true := bne_iff_ne.mpr c32
                                    replace H := Option.bind_eq_some_iff.mp H
                                    obtain ⟨t123, A380, H⟩ := H
                                    replace H : (if t123 = 0 then ((gimballaw1_num.f t118).bind fun t124 => (if t124 = 0 then (gimballaw1_FxOrder.j4 kj17 l0 x3_1 x4_17 ((rd_T24 l0 x3_1).f1) (decide (t115 > t117))) else (gimballaw1_FxOrder.j4 kj17 l0 x3_1 x4_17 ((rd_T24 l0 x3_1).f1) false))) else (gimballaw1_FxOrder.j4 kj17 l0 x3_1 x4_17 ((rd_T24 l0 x3_1).f1) false)) = some r := H
                                    have A38 := Aside0.mk A380
                                    clear A380
                                    by_cases c39 : t123 = 0
                                    · rw [if_pos c39] at H
                                      have c39b0 : (t123 == 0) = true := beq_iff_eq.mpr c39
                                      have c39b1 : (t123 != 0) = false := bne_eq_false_iff_eq.mpr c39
                                      clear c39
                                      replace H := Option.bind_eq_some_iff.mp H
                                      obtain ⟨t124, A400, H⟩ := H
                                      replace H : (if t124 = 0 then (gimballaw1_FxOrder.j4 kj17 l0 x3_1 x4_17 ((rd_T24 l0 x3_1).f1) (decide (t115 > t117))) else (gimballaw1_FxOrder.j4 kj17 l0 x3_1 x4_17 ((rd_T24 l0 x3_1).f1) false)) = some r := H
                                      have A40 := Aside0.mk A400
                                      clear A400
                                      by_cases c41 : t124 = 0
                                      · rw [if_pos c41] at H
                                        have c41b0 : (t124 == 0) = true := beq_iff_eq.mpr c41
                                        have c41b1 : (t124 != 0) = false := bne_eq_false_iff_eq.mpr c41
                                        clear c41
                                        have H' := Aside0.mk H
                                        clear H
                                        go_wp2_with (first | (go_at_call 19; (with_reducible refine (gimballaw1_num.calls t112 t119 _ A29.out).mono ?_); rintro e w' ⟨rfl, ⟨nd, rfl⟩⟩; (try first | exact ⟨rfl, _, World.drewN_drewN _ _ _⟩ | exact ⟨rfl, _, Eq.trans (World.drewN_drewN _ _ _) (congrArg (World.drewN _) (Nat.add_assoc _ _ _))⟩)) | (go_at_call 19; (with_reducible refine (gimballaw1_num.calls t114 t120 _ A31.out).mono ?_); rintro e w' ⟨rfl, ⟨nd, rfl⟩⟩; (try first | exact ⟨rfl, _, World.drewN_drewN _ _ _⟩ | exact ⟨rfl, _, Eq.trans (World.drewN_drewN _ _ _) (congrArg (World.drewN _) (Nat.add_assoc _ _ _))⟩)) | (go_at_call 19; (with_reducible refine (gimballaw1_num.calls t116 t123 _ A38.out).mono ?_); rintro e w' ⟨rfl, ⟨nd, rfl⟩⟩; (try first | exact ⟨rfl, _, World.drewN_drewN _ _ _⟩ | exact ⟨rfl, _, Eq.trans (World.drewN_drewN _ _ _) (congrArg (World.drewN _) (Nat.add_assoc _ _ _))⟩)) | (go_at_call 19; (with_reducible refine (gimballaw1_num.calls t118 t124 _ A40.out).mono ?_); rintro e w' ⟨rfl, ⟨nd, rfl⟩⟩; (try first | exact ⟨rfl, _, World.drewN_drewN _ _ _⟩ | exact ⟨rfl, _, Eq.trans (World.drewN_drewN _ _ _) (congrArg (World.drewN _) (Nat.add_assoc _ _ _))⟩)))
                                        repeat (go_quiet (first | (go_at_call 19; (with_reducible refine (gimballaw1_num.calls t112 t119 _ A29.out).mono ?_); rintro e w' ⟨rfl, ⟨nd, rfl⟩⟩; (try first | exact ⟨rfl, _, World.drewN_drewN _ _ _⟩ | exact ⟨rfl, _, Eq.trans (World.drewN_drewN _ _ _) (congrArg (World.drewN _) (Nat.add_assoc _ _ _))⟩)) | (go_at_call 19; (with_reducible refine (gimballaw1_num.calls t114 t120 _ A31.out).mono ?_); rintro e w' ⟨rfl, ⟨nd, rfl⟩⟩; (try first | exact ⟨rfl, _, World.drewN_drewN _ _ _⟩ | exact ⟨rfl, _, Eq.trans (World.drewN_drewN _ _ _) (congrArg (World.drewN _) (Nat.add_assoc _ _ _))⟩)) | (go_at_call 19; (with_reducible refine (gimballaw1_num.calls t116 t123 _ A38.out).mono ?_); rintro e w' ⟨rfl, ⟨nd, rfl⟩⟩; (try first | exact ⟨rfl, _, World.drewN_drewN _ _ _⟩ | exact ⟨rfl, _, Eq.trans (World.drewN_drewN _ _ _) (congrArg (World.drewN _) (Nat.add_assoc _ _ _))⟩)) | (go_at_call 19; (with_reducible refine (gimballaw1_num.calls t118 t124 _ A40.out).mono ?_); rintro e w' ⟨rfl, ⟨nd, rfl⟩⟩; (try first | exact ⟨rfl, _, World.drewN_drewN _ _ _⟩ | exact ⟨rfl, _, Eq.trans (World.drewN_drewN _ _ _) (congrArg (World.drewN _) (Nat.add_assoc _ _ _))⟩))); try go_wp2_with (first | (go_at_call 19; (with_reducible refine (gimballaw1_num.calls t112 t119 _ A29.out).mono ?_); rintro e w' ⟨rfl, ⟨nd, rfl⟩⟩; (try first | exact ⟨rfl, _, World.drewN_drewN _ _ _⟩ | exact ⟨rfl, _, Eq.trans (World.drewN_drewN _ _ _) (congrArg (World.drewN _) (Nat.add_assoc _ _ _))⟩)) | (go_at_call 19; (with_reducible refine (gimballaw1_num.calls t114 t120 _ A31.out).mono ?_); rintro e w' ⟨rfl, ⟨nd, rfl⟩⟩; (try first | exact ⟨rfl, _, World.drewN_drewN _ _ _⟩ | exact ⟨rfl, _, Eq.trans (World.drewN_drewN _ _ _) (congrArg (World.drewN _) (Nat.add_assoc _ _ _))⟩)) | (go_at_call 19; (with_reducible refine (gimballaw1_num.calls t116 t123 _ A38.out).mono ?_); rintro e w' ⟨rfl, ⟨nd, rfl⟩⟩; (try first | exact ⟨rfl, _, World.drewN_drewN _ _ _⟩ | exact ⟨rfl, _, Eq.trans (World.drewN_drewN _ _ _) (congrArg (World.drewN _) (Nat.add_assoc _ _ _))⟩)) | (go_at_call 19; (with_reducible refine (gimballaw1_num.calls t118 t124 _ A40.out).mono ?_); rintro e w' ⟨rfl, ⟨nd, rfl⟩⟩; (try first | exact ⟨rfl, _, World.drewN_drewN _ _ _⟩ | exact ⟨rfl, _, Eq.trans (World.drewN_drewN _ _ _) (congrArg (World.drewN _) (Nat.add_assoc _ _ _))⟩))))
                                        go_meet
                                        case rel => exact ⟨_, (decide (t115 > t117)), (by first | rfl | (simp; done) | (simp [*]; done)), H', ⟨by have := HK1.out; have := HJ1.out; have := HJ9.out; have := HJ17.out; first | omega | exact Nat.le_refl _⟩, ⟨by repeat (first | (with_reducible first | exact HB.out | apply below_alloc | apply pw_below_drewN | apply below_drew1) | exact HB.out)⟩⟩
                                      · rw [if_neg c41] at H
                                        have c41b0 : (t124 == 0) = false := beq_eq_false_iff_ne.mpr c41
                                        have c41b1 : (t124 != 0) = true := bne_iff_ne.mpr c41
                                        have H' := Aside0.mk H
                                        clear H
                                        go_wp2_with (first | (go_at_call 19; (with_reducible refine (gimballaw1_num.calls t112 t119 _ A29.out).mono ?_); rintro e w' ⟨rfl, ⟨nd, rfl⟩⟩; (try first | exact ⟨rfl, _, World.drewN_drewN _ _ _⟩ | exact ⟨rfl, _, Eq.trans (World.drewN_drewN _ _ _) (congrArg (World.drewN _) (Nat.add_assoc _ _ _))⟩)) | (go_at_call 19; (with_reducible refine (gimballaw1_num.calls t114 t120 _ A31.out).mono ?_); rintro e w' ⟨rfl, ⟨nd, rfl⟩⟩; (try first | exact ⟨rfl, _, World.drewN_drewN _ _ _⟩ | exact ⟨rfl, _, Eq.trans (World.drewN_drewN _ _ _) (congrArg (World.drewN _) (Nat.add_assoc _ _ _))⟩)) | (go_at_call 19; (with_reducible refine (gimballaw1_num.calls t116 t123 _ A38.out).mono ?_); rintro e w' ⟨rfl, ⟨nd, rfl⟩⟩; (try first | exact ⟨rfl, _, World.drewN_drewN _ _ _⟩ | exact ⟨rfl, _, Eq.trans (World.drewN_drewN _ _ _) (congrArg (World.drewN _) (Nat.add_assoc _ _ _))⟩)) | (go_at_call 19; (with_reducible refine (gimballaw1_num.calls t118 t124 _ A40.out).mono ?_); rintro e w' ⟨rfl, ⟨nd, rfl⟩⟩; (try first | exact ⟨rfl, _, World.drewN_drewN _ _ _⟩ | exact ⟨rfl, _, Eq.trans (World.drewN_drewN _ _ _) (congrArg (World.drewN _) (Nat.add_assoc _ _ _))⟩)))
                                        repeat (go_quiet (first | (go_at_call 19; (with_reducible refine (gimballaw1_num.calls t112 t119 _ A29.out).mono ?_); rintro e w' ⟨rfl, ⟨nd, rfl⟩⟩; (try first | exact ⟨rfl, _, World.drewN_drewN _ _ _⟩ | exact ⟨rfl, _, Eq.trans (World.drewN_drewN _ _ _) (congrArg (World.drewN _) (Nat.add_assoc _ _ _))⟩)) | (go_at_call 19; (with_reducible refine (gimballaw1_num.calls t114 t120 _ A31.out).mono ?_); rintro e w' ⟨rfl, ⟨nd, rfl⟩⟩; (try first | exact ⟨rfl, _, World.drewN_drewN _ _ _⟩ | exact ⟨rfl, _, Eq.trans (World.drewN_drewN _ _ _) (congrArg (World.drewN _) (Nat.add_assoc _ _ _))⟩)) | (go_at_call 19; (with_reducible refine (gimballaw1_num.calls t116 t123 _ A38.out).mono ?_); rintro e w' ⟨rfl, ⟨nd, rfl⟩⟩; (try first | exact ⟨rfl, _, World.drewN_drewN _ _ _⟩ | exact ⟨rfl, _, Eq.trans (World.drewN_drewN _ _ _) (congrArg (World.drewN _) (Nat.add_assoc _ _ _))⟩)) | (go_at_call 19; (with_reducible refine (gimballaw1_num.calls t118 t124 _ A40.out).mono ?_); rintro e w' ⟨rfl, ⟨nd, rfl⟩⟩; (try first | exact ⟨rfl, _, World.drewN_drewN _ _ _⟩ | exact ⟨rfl, _, Eq.trans (World.drewN_drewN _ _ _) (congrArg (World.drewN _) (Nat.add_assoc _ _ _))⟩))); try go_wp2_with (first | (go_at_call 19; (with_reducible refine (gimballaw1_num.calls t112 t119 _ A29.out).mono ?_); rintro e w' ⟨rfl, ⟨nd, rfl⟩⟩; (try first | exact ⟨rfl, _, World.drewN_drewN _ _ _⟩ | exact ⟨rfl, _, Eq.trans (World.drewN_drewN _ _ _) (congrArg (World.drewN _) (Nat.add_assoc _ _ _))⟩)) | (go_at_call 19; (with_reducible refine (gimballaw1_num.calls t114 t120 _ A31.out).mono ?_); rintro e w' ⟨rfl, ⟨nd, rfl⟩⟩; (try first | exact ⟨rfl, _, World.drewN_drewN _ _ _⟩ | exact ⟨rfl, _, Eq.trans (World.drewN_drewN _ _ _) (congrArg (World.drewN _) (Nat.add_assoc _ _ _))⟩)) | (go_at_call 19; (with_reducible refine (gimballaw1_num.calls t116 t123 _ A38.out).mono ?_); rintro e w' ⟨rfl, ⟨nd, rfl⟩⟩; (try first | exact ⟨rfl, _, World.drewN_drewN _ _ _⟩ | exact ⟨rfl, _, Eq.trans (World.drewN_drewN _ _ _) (congrArg (World.drewN _) (Nat.add_assoc _ _ _))⟩)) | (go_at_call 19; (with_reducible refine (gimballaw1_num.calls t118 t124 _ A40.out).mono ?_); rintro e w' ⟨rfl, ⟨nd, rfl⟩⟩; (try first | exact ⟨rfl, _, World.drewN_drewN _ _ _⟩ | exact ⟨rfl, _, Eq.trans (World.drewN_drewN _ _ _) (congrArg (World.drewN _) (Nat.add_assoc _ _ _))⟩))))
                                        go_meet
                                        case rel => exact ⟨_, (false), (by first | rfl | (simp; done) | (simp [*]; done)), H', ⟨by have := HK1.out; have := HJ1.out; have := HJ9.out; have := HJ17.out; first | omega | exact Nat.le_refl _⟩, ⟨by repeat (first | (with_reducible first | exact HB.out | apply below_alloc | apply pw_below_drewN | apply below_drew1) | exact HB.out)⟩⟩
                                    · rw [if_neg c39] at H
                                      have c39b0 : (t123 == 0) = false := beq_eq_false_iff_ne.mpr c39
                                      have c39b1 : (t123 != 0) = true := bne_iff_ne.mpr c39
                                      have H' := Aside0.mk H
                                      clear H
                                      go_wp2_with (first | (go_at_call 19; (with_reducible refine (gimballaw1_num.calls t112 t119 _ A29.out).mono ?_); rintro e w' ⟨rfl, ⟨nd, rfl⟩⟩; (try first | exact ⟨rfl, _, World.drewN_drewN _ _ _⟩ | exact ⟨rfl, _, Eq.trans (World.drewN_drewN _ _ _) (congrArg (World.drewN _) (Nat.add_assoc _ _ _))⟩)) | (go_at_call 19; (with_reducible refine (gimballaw1_num.calls t114 t120 _ A31.out).mono ?_); rintro e w' ⟨rfl, ⟨nd, rfl⟩⟩; (try first | exact ⟨rfl, _, World.drewN_drewN _ _ _⟩ | exact ⟨rfl, _, Eq.trans (World.drewN_drewN _ _ _) (congrArg (World.drewN _) (Nat.add_assoc _ _ _))⟩)) | (go_at_call 19; (with_reducible refine (gimballaw1_num.calls t116 t123 _ A38.out).mono ?_); rintro e w' ⟨rfl, ⟨nd, rfl⟩⟩; (try first | exact ⟨rfl, _, World.drewN_drewN _ _ _⟩ | exact ⟨rfl, _, Eq.trans (World.drewN_drewN _ _ _) (congrArg (World.drewN _) (Nat.add_assoc _ _ _))⟩)))
                                      repeat (go_quiet (first | (go_at_call 19; (with_reducible refine (gimballaw1_num.calls t112 t119 _ A29.out).mono ?_); rintro e w' ⟨rfl, ⟨nd, rfl⟩⟩; (try first | exact ⟨rfl, _, World.drewN_drewN _ _ _⟩ | exact ⟨rfl, _, Eq.trans (World.drewN_drewN _ _ _) (congrArg (World.drewN _) (Nat.add_assoc _ _ _))⟩)) | (go_at_call 19; (with_reducible refine (gimballaw1_num.calls t114 t120 _ A31.out).mono ?_); rintro e w' ⟨rfl, ⟨nd, rfl⟩⟩; (try first | exact ⟨rfl, _, World.drewN_drewN _ _ _⟩ | exact ⟨rfl, _, Eq.trans (World.drewN_drewN _ _ _) (congrArg (World.drewN _) (Nat.add_assoc _ _ _))⟩)) | (go_at_call 19; (with_reducible refine (gimballaw1_num.calls t116 t123 _ A38.out).mono ?_); rintro e w' ⟨rfl, ⟨nd, rfl⟩⟩; (try first | exact ⟨rfl, _, World.drewN_drewN _ _ _⟩ | exact ⟨rfl, _, Eq.trans (World.drewN_drewN _ _ _) (congrArg (World.drewN _) (Nat.add_assoc _ _ _))⟩))); try go_wp2_with (first | (go_at_call 19; (with_reducible refine (gimballaw1_num.calls t112 t119 _ A29.out).mono ?_); rintro e w' ⟨rfl, ⟨nd, rfl⟩⟩; (try first | exact ⟨rfl, _, World.drewN_drewN _ _ _⟩ | exact ⟨rfl, _, Eq.trans (World.drewN_drewN _ _ _) (congrArg (World.drewN _) (Nat.add_assoc _ _ _))⟩)) | (go_at_call 19; (with_reducible refine (gimballaw1_num.calls t114 t120 _ A31.out).mono ?_); rintro e w' ⟨rfl, ⟨nd, rfl⟩⟩; (try first | exact ⟨rfl, _, World.drewN_drewN _ _ _⟩ | exact ⟨rfl, _, Eq.trans (World.drewN_drewN _ _ _) (congrArg (World.drewN _) (Nat.add_assoc _ _ _))⟩)) | (go_at_call 19; (with_reducible refine (gimballaw1_num.calls t116 t123 _ A38.out).mono ?_); rintro e w' ⟨rfl, ⟨nd, rfl⟩⟩; (try first | exact ⟨rfl, _, World.drewN_drewN _ _ _⟩ | exact ⟨rfl, _, Eq.trans (World.drewN_drewN _ _ _) (congrArg (World.drewN _) (Nat.add_assoc _ _ _))⟩))))
                                      go_meet
                                      case rel => exact ⟨_, (false), (by first | rfl | (simp; done) | (simp [*]; done)), H', ⟨by have := HK1.out; have := HJ1.out; have := HJ9.out; have := HJ17.out; first | omega | exact Nat.le_refl _⟩, ⟨by repeat (first | (with_reducible first | exact HB.out | apply below_alloc | apply pw_below_drewN | apply below_drew1) | exact HB.out)⟩⟩
                                · rw [if_neg c30] at H
                                  have c30b0 : (t119 == 0) = false := beq_eq_false_iff_ne.mpr c30
                                  have c30b1 : (t119 != 0) = true := bne_iff_ne.mpr c30
                                  (first | rw [c30b0] | (simp only [i64_w, i32_w]; rw [c30b0]) | skip)
                                  replace H := Option.bind_eq_some_iff.mp H
                                  obtain ⟨t125, A420, H⟩ := H
                                  replace H : (if t125 = 0 then ((gimballaw1_num.f t118).bind fun t126 => (if t126 = 0 then (gimballaw1_FxOrder.j4 kj17 l0 x3_1 x4_17 ((rd_T24 l0 x3_1).f1) (decide (t115 > t117))) else (gimballaw1_FxOrder.j4 kj17 l0 x3_1 x4_17 ((rd_T24 l0 x3_1).f1) false))) else (gimballaw1_FxOrder.j4 kj17 l0 x3_1 x4_17 ((rd_T24 l0 x3_1).f1) false)) = some r := H
                                  have A42 := Aside0.mk A420
                                  clear A420
                                  by_cases c43 : t125 = 0
                                  · rw [if_pos c43] at H
                                    have c43b0 : (t125 == 0) = true := beq_iff_eq.mpr c43
                                    have c43b1 : (t125 != 0) = false := bne_eq_false_iff_eq.mpr c43
                                    clear c43
                                    replace H := Option.bind_eq_some_iff.mp H
                                    obtain ⟨t126, A440, H⟩ := H
                                    replace H : (if t126 = 0 then (gimballaw1_FxOrder.j4 kj17 l0 x3_1 x4_17 ((rd_T24 l0 x3_1).f1) (decide (t115 > t117))) else (gimballaw1_FxOrder.j4 kj17 l0 x3_1 x4_17 ((rd_T24 l0 x3_1).f1) false)) = some r := H
                                    have A44 := Aside0.mk A440
                                    clear A440
                                    by_cases c45 : t126 = 0
                                    · rw [if_pos c45] at H
                                      have c45b0 : (t126 == 0) = true := beq_iff_eq.mpr c45
                                      have c45b1 : (t126 != 0) = false := bne_eq_false_iff_eq.mpr c45
                                      clear c45
                                      have H' := Aside0.mk H
                                      clear H
                                      go_wp2_with (first | (go_at_call 19; (with_reducible refine (gimballaw1_num.calls t112 t119 _ A29.out).mono ?_); rintro e w' ⟨rfl, ⟨nd, rfl⟩⟩; (try first | exact ⟨rfl, _, World.drewN_drewN _ _ _⟩ | exact ⟨rfl, _, Eq.trans (World.drewN_drewN _ _ _) (congrArg (World.drewN _) (Nat.add_assoc _ _ _))⟩)) | (go_at_call 19; (with_reducible refine (gimballaw1_num.calls t116 t125 _ A42.out).mono ?_); rintro e w' ⟨rfl, ⟨nd, rfl⟩⟩; (try first | exact ⟨rfl, _, World.drewN_drewN _ _ _⟩ | exact ⟨rfl, _, Eq.trans (World.drewN_drewN _ _ _) (congrArg (World.drewN _) (Nat.add_assoc _ _ _))⟩)) | (go_at_call 19; (with_reducible refine (gimballaw1_num.calls t118 t126 _ A44.out).mono ?_); rintro e w' ⟨rfl, ⟨nd, rfl⟩⟩; (try first | exact ⟨rfl, _, World.drewN_drewN _ _ _⟩ | exact ⟨rfl, _, Eq.trans (World.drewN_drewN _ _ _) (congrArg (World.drewN _) (Nat.add_assoc _ _ _))⟩)))
                                      repeat (go_quiet (first | (go_at_call 19; (with_reducible refine (gimballaw1_num.calls t112 t119 _ A29.out).mono ?_); rintro e w' ⟨rfl, ⟨nd, rfl⟩⟩; (try first | exact ⟨rfl, _, World.drewN_drewN _ _ _⟩ | exact ⟨rfl, _, Eq.trans (World.drewN_drewN _ _ _) (congrArg (World.drewN _) (Nat.add_assoc _ _ _))⟩)) | (go_at_call 19; (with_reducible refine (gimballaw1_num.calls t116 t125 _ A42.out).mono ?_); rintro e w' ⟨rfl, ⟨nd, rfl⟩⟩; (try first | exact ⟨rfl, _, World.drewN_drewN _ _ _⟩ | exact ⟨rfl, _, Eq.trans (World.drewN_drewN _ _ _) (congrArg (World.drewN _) (Nat.add_assoc _ _ _))⟩)) | (go_at_call 19; (with_reducible refine (gimballaw1_num.calls t118 t126 _ A44.out).mono ?_); rintro e w' ⟨rfl, ⟨nd, rfl⟩⟩; (try first | exact ⟨rfl, _, World.drewN_drewN _ _ _⟩ | exact ⟨rfl, _, Eq.trans (World.drewN_drewN _ _ _) (congrArg (World.drewN _) (Nat.add_assoc _ _ _))⟩))); try go_wp2_with (first | (go_at_call 19; (with_reducible refine (gimballaw1_num.calls t112 t119 _ A29.out).mono ?_); rintro e w' ⟨rfl, ⟨nd, rfl⟩⟩; (try first | exact ⟨rfl, _, World.drewN_drewN _ _ _⟩ | exact ⟨rfl, _, Eq.trans (World.drewN_drewN _ _ _) (congrArg (World.drewN _) (Nat.add_assoc _ _ _))⟩)) | (go_at_call 19; (with_reducible refine (gimballaw1_num.calls t116 t125 _ A42.out).mono ?_); rintro e w' ⟨rfl, ⟨nd, rfl⟩⟩; (try first | exact ⟨rfl, _, World.drewN_drewN _ _ _⟩ | exact ⟨rfl, _, Eq.trans (World.drewN_drewN _ _ _) (congrArg (World.drewN _) (Nat.add_assoc _ _ _))⟩)) | (go_at_call 19; (with_reducible refine (gimballaw1_num.calls t118 t126 _ A44.out).mono ?_); rintro e w' ⟨rfl, ⟨nd, rfl⟩⟩; (try first | exact ⟨rfl, _, World.drewN_drewN _ _ _⟩ | exact ⟨rfl, _, Eq.trans (World.drewN_drewN _ _ _) (congrArg (World.drewN _) (Nat.add_assoc _ _ _))⟩))))
                                      go_meet
                                      case rel => exact ⟨_, (decide (t115 > t117)), (by first | rfl | (simp; done) | (simp [*]; done)), H', ⟨by have := HK1.out; have := HJ1.out; have := HJ9.out; have := HJ17.out; first | omega | exact Nat.le_refl _⟩, ⟨by repeat (first | (with_reducible first | exact HB.out | apply below_alloc | apply pw_below_drewN | apply below_drew1) | exact HB.out)⟩⟩
                                    · rw [if_neg c45] at H
                                      have c45b0 : (t126 == 0) = false := beq_eq_false_iff_ne.mpr c45
                                      have c45b1 : (t126 != 0) = true := bne_iff_ne.mpr c45
                                      have H' := Aside0.mk H
                                      clear H
                                      go_wp2_with (first | (go_at_call 19; (with_reducible refine (gimballaw1_num.calls t112 t119 _ A29.out).mono ?_); rintro e w' ⟨rfl, ⟨nd, rfl⟩⟩; (try first | exact ⟨rfl, _, World.drewN_drewN _ _ _⟩ | exact ⟨rfl, _, Eq.trans (World.drewN_drewN _ _ _) (congrArg (World.drewN _) (Nat.add_assoc _ _ _))⟩)) | (go_at_call 19; (with_reducible refine (gimballaw1_num.calls t116 t125 _ A42.out).mono ?_); rintro e w' ⟨rfl, ⟨nd, rfl⟩⟩; (try first | exact ⟨rfl, _, World.drewN_drewN _ _ _⟩ | exact ⟨rfl, _, Eq.trans (World.drewN_drewN _ _ _) (congrArg (World.drewN _) (Nat.add_assoc _ _ _))⟩)) | (go_at_call 19; (with_reducible refine (gimballaw1_num.calls t118 t126 _ A44.out).mono ?_); rintro e w' ⟨rfl, ⟨nd, rfl⟩⟩; (try first | exact ⟨rfl, _, World.drewN_drewN _ _ _⟩ | exact ⟨rfl, _, Eq.trans (World.drewN_drewN _ _ _) (congrArg (World.drewN _) (Nat.add_assoc _ _ _))⟩)))
                                      repeat (go_quiet (first | (go_at_call 19; (with_reducible refine (gimballaw1_num.calls t112 t119 _ A29.out).mono ?_); rintro e w' ⟨rfl, ⟨nd, rfl⟩⟩; (try first | exact ⟨rfl, _, World.drewN_drewN _ _ _⟩ | exact ⟨rfl, _, Eq.trans (World.drewN_drewN _ _ _) (congrArg (World.drewN _) (Nat.add_assoc _ _ _))⟩)) | (go_at_call 19; (with_reducible refine (gimballaw1_num.calls t116 t125 _ A42.out).mono ?_); rintro e w' ⟨rfl, ⟨nd, rfl⟩⟩; (try first | exact ⟨rfl, _, World.drewN_drewN _ _ _⟩ | exact ⟨rfl, _, Eq.trans (World.drewN_drewN _ _ _) (congrArg (World.drewN _) (Nat.add_assoc _ _ _))⟩)) | (go_at_call 19; (with_reducible refine (gimballaw1_num.calls t118 t126 _ A44.out).mono ?_); rintro e w' ⟨rfl, ⟨nd, rfl⟩⟩; (try first | exact ⟨rfl, _, World.drewN_drewN _ _ _⟩ | exact ⟨rfl, _, Eq.trans (World.drewN_drewN _ _ _) (congrArg (World.drewN _) (Nat.add_assoc _ _ _))⟩))); try go_wp2_with (first | (go_at_call 19; (with_reducible refine (gimballaw1_num.calls t112 t119 _ A29.out).mono ?_); rintro e w' ⟨rfl, ⟨nd, rfl⟩⟩; (try first | exact ⟨rfl, _, World.drewN_drewN _ _ _⟩ | exact ⟨rfl, _, Eq.trans (World.drewN_drewN _ _ _) (congrArg (World.drewN _) (Nat.add_assoc _ _ _))⟩)) | (go_at_call 19; (with_reducible refine (gimballaw1_num.calls t116 t125 _ A42.out).mono ?_); rintro e w' ⟨rfl, ⟨nd, rfl⟩⟩; (try first | exact ⟨rfl, _, World.drewN_drewN _ _ _⟩ | exact ⟨rfl, _, Eq.trans (World.drewN_drewN _ _ _) (congrArg (World.drewN _) (Nat.add_assoc _ _ _))⟩)) | (go_at_call 19; (with_reducible refine (gimballaw1_num.calls t118 t126 _ A44.out).mono ?_); rintro e w' ⟨rfl, ⟨nd, rfl⟩⟩; (try first | exact ⟨rfl, _, World.drewN_drewN _ _ _⟩ | exact ⟨rfl, _, Eq.trans (World.drewN_drewN _ _ _) (congrArg (World.drewN _) (Nat.add_assoc _ _ _))⟩))))
                                      go_meet
                                      case rel => exact ⟨_, (false), (by first | rfl | (simp; done) | (simp [*]; done)), H', ⟨by have := HK1.out; have := HJ1.out; have := HJ9.out; have := HJ17.out; first | omega | exact Nat.le_refl _⟩, ⟨by repeat (first | (with_reducible first | exact HB.out | apply below_alloc | apply pw_below_drewN | apply below_drew1) | exact HB.out)⟩⟩
                                  · rw [if_neg c43] at H
                                    have c43b0 : (t125 == 0) = false := beq_eq_false_iff_ne.mpr c43
                                    have c43b1 : (t125 != 0) = true := bne_iff_ne.mpr c43
                                    have H' := Aside0.mk H
                                    clear H
                                    go_wp2_with (first | (go_at_call 19; (with_reducible refine (gimballaw1_num.calls t112 t119 _ A29.out).mono ?_); rintro e w' ⟨rfl, ⟨nd, rfl⟩⟩; (try first | exact ⟨rfl, _, World.drewN_drewN _ _ _⟩ | exact ⟨rfl, _, Eq.trans (World.drewN_drewN _ _ _) (congrArg (World.drewN _) (Nat.add_assoc _ _ _))⟩)) | (go_at_call 19; (with_reducible refine (gimballaw1_num.calls t116 t125 _ A42.out).mono ?_); rintro e w' ⟨rfl, ⟨nd, rfl⟩⟩; (try first | exact ⟨rfl, _, World.drewN_drewN _ _ _⟩ | exact ⟨rfl, _, Eq.trans (World.drewN_drewN _ _ _) (congrArg (World.drewN _) (Nat.add_assoc _ _ _))⟩)))
                                    repeat (go_quiet (first | (go_at_call 19; (with_reducible refine (gimballaw1_num.calls t112 t119 _ A29.out).mono ?_); rintro e w' ⟨rfl, ⟨nd, rfl⟩⟩; (try first | exact ⟨rfl, _, World.drewN_drewN _ _ _⟩ | exact ⟨rfl, _, Eq.trans (World.drewN_drewN _ _ _) (congrArg (World.drewN _) (Nat.add_assoc _ _ _))⟩)) | (go_at_call 19; (with_reducible refine (gimballaw1_num.calls t116 t125 _ A42.out).mono ?_); rintro e w' ⟨rfl, ⟨nd, rfl⟩⟩; (try first | exact ⟨rfl, _, World.drewN_drewN _ _ _⟩ | exact ⟨rfl, _, Eq.trans (World.drewN_drewN _ _ _) (congrArg (World.drewN _) (Nat.add_assoc _ _ _))⟩))); try go_wp2_with (first | (go_at_call 19; (with_reducible refine (gimballaw1_num.calls t112 t119 _ A29.out).mono ?_); rintro e w' ⟨rfl, ⟨nd, rfl⟩⟩; (try first | exact ⟨rfl, _, World.drewN_drewN _ _ _⟩ | exact ⟨rfl, _, Eq.trans (World.drewN_drewN _ _ _) (congrArg (World.drewN _) (Nat.add_assoc _ _ _))⟩)) | (go_at_call 19; (with_reducible refine (gimballaw1_num.calls t116 t125 _ A42.out).mono ?_); rintro e w' ⟨rfl, ⟨nd, rfl⟩⟩; (try first | exact ⟨rfl, _, World.drewN_drewN _ _ _⟩ | exact ⟨rfl, _, Eq.trans (World.drewN_drewN _ _ _) (congrArg (World.drewN _) (Nat.add_assoc _ _ _))⟩))))
                                    go_meet
                                    case rel => exact ⟨_, (false), (by first | rfl | (simp; done) | (simp [*]; done)), H', ⟨by have := HK1.out; have := HJ1.out; have := HJ9.out; have := HJ17.out; first | omega | exact Nat.le_refl _⟩, ⟨by repeat (first | (with_reducible first | exact HB.out | apply below_alloc | apply pw_below_drewN | apply below_drew1) | exact HB.out)⟩⟩
                              case rest => as_aux_lemma =>
                                clear HC24
                                try clear c1
                                try clear p1
                                try clear q1
                                try clear hx1
                                try clear p2
                                try clear c3
                                try clear c3b0
                                try clear c4
                                try clear c5
                                try clear c5b0
                                try clear c6
                                try clear c6b0
                                try clear p6
                                try clear c8
                                try clear c8b0
                                try clear c9
                                try clear c9b0
                                try clear p10
                                try clear q10
                                try clear hx10
                                try clear c12
                                try clear c14
                                try clear c16
                                try clear c17
                                try clear c19
                                try clear c19b0
                                try clear c30
                                try clear c30b0
                                try clear c30b1
                                try clear c32
                                try clear c32b0
                                try clear c32b1
                                try clear c33
                                try clear c33b0
                                try clear c35
                                try clear c35b0
                                try clear c35b1
                                try clear c37
                                try clear c37b0
                                try clear c37b1
                                try clear c39
                                try clear c39b0
                                try clear c39b1
                                try clear c41
                                try clear c41b0
                                try clear c41b1
                                try clear c43
                                try clear c43b0
                                try clear c43b1
                                try clear c45
                                try clear c45b0
                                try clear c45b1
                                try clear hx105_0
                                try clear hx105_1
                                try clear hx105_2
                                try clear hx105_3
                                try clear hx105_4
                                try clear hx105_5
                                try clear hx106_0
                                try clear hx106_1
                                try clear hx106_2
                                try clear hx106_3
                                try clear hx106_4
                                try clear hx106_5
                                try clear hx107_0
                                try clear hx107_1
                                try clear hx107_2
                                try clear hx107_3
                                try clear hx107_4
                                try clear hx107_5
                                try clear p1
                                try clear p10
                                try clear p105
                                try clear p106
                                try clear p107
                                try clear p2
                                try clear p6
                                try clear q1
                                try clear q10
                                try clear q105
                                try clear q106
                                try clear q107
                                obtain ⟨kq, x121_23, rfl, HA, HJ23, HB⟩ := hcut
                                cases kq with
                                | zero => exact absurd HA.out (by simp [gimballaw1_FxOrder.j4])
                                | succ kj23 =>
                                  have H := HA.out
                                  clear HA
                                  simp only [gimballaw1_FxOrder.j4] at H
                                  by_cases c46 : x121_23 = true
                                  · subst c46
                                    have H1 : (some false) = some r := by rw [if_pos rfl] at H; exact H
                                    clear H
                                    have H := H1
                                    clear H1
                                    obtain rfl := Option.some.inj H
                                    go_wp2
                                    repeat (go_quiet (fail); try go_wp2)
                                    go_ret
                                    exact ⟨by first | rfl | (simp [errW_none, errW_some] <;> rfl) | (simp only [← hji7]; first | rfl | (simp [errW_none, errW_some] <;> rfl)) | (simp [*, errW_none, errW_some] <;> rfl), by repeat (first | (with_reducible first | exact HB.out | apply below_alloc | apply pw_below_drewN | apply below_drew1) | exact HB.out)⟩
                                  · replace c46 := Bool.eq_false_iff.mpr c46
                                    subst c46
                                    have H1 : ((fx_Ratio.f x4_17 ((rd_T24 l0 x3_1).f1)).bind fun bt127 => ((fx_Ratio.f (wrap64 (3 * x4_17)) (wrap64 (3 * ((rd_T24 l0 x3_1).f1)))).bind fun bt129 => ((fx_Ratio.f (wrap64 (-x4_17)) ((rd_T24 l0 x3_1).f1)).bind fun bt131 => ((gimballaw1_num.f bt127.2).bind fun t133 => (if t133 = 0 then ((gimballaw1_num.f bt129.2).bind fun t134 => (if t134 = 0 then ((gimballaw1_num.f bt131.2).bind fun t135 => (if t135 = 0 then (if bt127.1 = bt129.1 then (if bt131.1 = (wrap64 (-bt127.1)) then (gimballaw1_FxOrder.l0 kj23 l0 (wrap64 (x3_1 + 1))) else (some false)) else (some false)) else (some false))) else (some false))) else (some false)))))) = some r := by rw [if_neg (show ¬ (false = true) by decide)] at H; exact H
                                    clear H
                                    have H := H1
                                    clear H1
                                    replace H := Option.bind_eq_some_iff.mp H
                                    obtain ⟨⟨t127, t128⟩, A470, H⟩ := H
                                    replace H : ((fx_Ratio.f (wrap64 (3 * x4_17)) (wrap64 (3 * ((rd_T24 l0 x3_1).f1)))).bind fun bt129 => ((fx_Ratio.f (wrap64 (-x4_17)) ((rd_T24 l0 x3_1).f1)).bind fun bt131 => ((gimballaw1_num.f t128).bind fun t133 => (if t133 = 0 then ((gimballaw1_num.f bt129.2).bind fun t134 => (if t134 = 0 then ((gimballaw1_num.f bt131.2).bind fun t135 => (if t135 = 0 then (if t127 = bt129.1 then (if bt131.1 = (wrap64 (-t127)) then (gimballaw1_FxOrder.l0 kj23 l0 (wrap64 (x3_1 + 1))) else (some false)) else (some false)) else (some false))) else (some false))) else (some false))))) = some r := H
                                    have A47 := Aside0.mk A470
                                    clear A470
                                    replace H := Option.bind_eq_some_iff.mp H
                                    obtain ⟨⟨t129, t130⟩, A480, H⟩ := H
                                    replace H : ((fx_Ratio.f (wrap64 (-x4_17)) ((rd_T24 l0 x3_1).f1)).bind fun bt131 => ((gimballaw1_num.f t128).bind fun t133 => (if t133 = 0 then ((gimballaw1_num.f t130).bind fun t134 => (if t134 = 0 then ((gimballaw1_num.f bt131.2).bind fun t135 => (if t135 = 0 then (if t127 = t129 then (if bt131.1 = (wrap64 (-t127)) then (gimballaw1_FxOrder.l0 kj23 l0 (wrap64 (x3_1 + 1))) else (some false)) else (some false)) else (some false))) else (some false))) else (some false)))) = some r := H
                                    have A48 := Aside0.mk A480
                                    clear A480
                                    replace H := Option.bind_eq_some_iff.mp H
                                    obtain ⟨⟨t131, t132⟩, A490, H⟩ := H
                                    replace H : ((gimballaw1_num.f t128).bind fun t133 => (if t133 = 0 then ((gimballaw1_num.f t130).bind fun t134 => (if t134 = 0 then ((gimballaw1_num.f t132).bind fun t135 => (if t135 = 0 then (if t127 = t129 then (if t131 = (wrap64 (-t127)) then (gimballaw1_FxOrder.l0 kj23 l0 (wrap64 (x3_1 + 1))) else (some false)) else (some false)) else (some false))) else (some false))) else (some false))) = some r := H
                                    have A49 := Aside0.mk A490
                                    clear A490
                                    replace H := Option.bind_eq_some_iff.mp H
                                    obtain ⟨t133, A500, H⟩ := H
                                    replace H : (if t133 = 0 then ((gimballaw1_num.f t130).bind fun t134 => (if t134 = 0 then ((gimballaw1_num.f t132).bind fun t135 => (if t135 = 0 then (if t127 = t129 then (if t131 = (wrap64 (-t127)) then (gimballaw1_FxOrder.l0 kj23 l0 (wrap64 (x3_1 + 1))) else (some false)) else (some false)) else (some false))) else (some false))) else (some false)) = some r := H
                                    have A50 := Aside0.mk A500
                                    clear A500
                                    by_cases c51 : t133 = 0
                                    · rw [if_pos c51] at H
                                      have c51b0 : (t133 == 0) = true := beq_iff_eq.mpr c51
                                      have c51b1 : (t133 != 0) = false := bne_eq_false_iff_eq.mpr c51
                                      clear c51
                                      replace H := Option.bind_eq_some_iff.mp H
                                      obtain ⟨t134, A520, H⟩ := H
                                      replace H : (if t134 = 0 then ((gimballaw1_num.f t132).bind fun t135 => (if t135 = 0 then (if t127 = t129 then (if t131 = (wrap64 (-t127)) then (gimballaw1_FxOrder.l0 kj23 l0 (wrap64 (x3_1 + 1))) else (some false)) else (some false)) else (some false))) else (some false)) = some r := H
                                      have A52 := Aside0.mk A520
                                      clear A520
                                      by_cases c53 : t134 = 0
                                      · rw [if_pos c53] at H
                                        have c53b0 : (t134 == 0) = true := beq_iff_eq.mpr c53
                                        have c53b1 : (t134 != 0) = false := bne_eq_false_iff_eq.mpr c53
                                        clear c53
                                        replace H := Option.bind_eq_some_iff.mp H
                                        obtain ⟨t135, A540, H⟩ := H
                                        replace H : (if t135 = 0 then (if t127 = t129 then (if t131 = (wrap64 (-t127)) then (gimballaw1_FxOrder.l0 kj23 l0 (wrap64 (x3_1 + 1))) else (some false)) else (some false)) else (some false)) = some r := H
                                        have A54 := Aside0.mk A540
                                        clear A540
                                        by_cases c55 : t135 = 0
                                        · rw [if_pos c55] at H
                                          have c55b0 : (t135 == 0) = true := beq_iff_eq.mpr c55
                                          have c55b1 : (t135 != 0) = false := bne_eq_false_iff_eq.mpr c55
                                          clear c55
                                          by_cases c56 : t127 = t129
                                          · rw [if_pos c56] at H
                                            have c56b0 : (t127 == t129) = true := beq_iff_eq.mpr c56
                                            have c56b1 : (t127 != t129) = false := bne_eq_false_iff_eq.mpr c56
                                            clear c56
                                            by_cases c57 : t131 = (wrap64 (-t127))
                                            · rw [if_pos c57] at H
                                              have c57b0 : (t131 == (wrap64 (-t127))) = true := beq_iff_eq.mpr c57
                                              have c57b1 : (t131 != (wrap64 (-t127))) = false := bne_eq_false_iff_eq.mpr c57
                                              clear c57
                                              have H' := Aside0.mk H
                                              clear H
                                              go_wp2_with (first | (go_at_call 22; (with_reducible refine (fx_Ratio.calls x4_17 ((rd_T24 l0 x3_1).f1) t127 t128 _ A47.out).mono ?_); rintro e w58 ⟨rfl, hb⟩; have n0_ := Aside0.mk (below_step (by repeat (first | (with_reducible first | exact HB.out | apply below_alloc | apply pw_below_drewN | apply below_drew1) | exact HB.out)) hb); clear HB; have HB := n0_; clear n0_; (try clear hb); (try clear hb2); (try clear hk); (try clear hi)) | (go_at_call 22; (with_reducible refine (fx_Ratio.calls (wrap64 (3 * x4_17)) (wrap64 (3 * ((rd_T24 l0 x3_1).f1))) t129 t130 _ A48.out).mono ?_); rintro e w59 ⟨rfl, hb⟩; have n0_ := Aside0.mk (below_step (by repeat (first | (with_reducible first | exact HB.out | apply below_alloc | apply pw_below_drewN | apply below_drew1) | exact HB.out)) hb); clear HB; have HB := n0_; clear n0_; (try clear hb); (try clear hb2); (try clear hk); (try clear hi)) | (go_at_call 22; (with_reducible refine (fx_Ratio.calls (wrap64 (-x4_17)) ((rd_T24 l0 x3_1).f1) t131 t132 _ A49.out).mono ?_); rintro e w60 ⟨rfl, hb⟩; have n0_ := Aside0.mk (below_step (by repeat (first | (with_reducible first | exact HB.out | apply below_alloc | apply pw_below_drewN | apply below_drew1) | exact HB.out)) hb); clear HB; have HB := n0_; clear n0_; (try clear hb); (try clear hb2); (try clear hk); (try clear hi)) | (go_at_call 19; (with_reducible refine (gimballaw1_num.calls t128 t133 _ A50.out).mono ?_); rintro e w' ⟨rfl, ⟨nd, rfl⟩⟩; (try first | exact ⟨rfl, _, World.drewN_drewN _ _ _⟩ | exact ⟨rfl, _, Eq.trans (World.drewN_drewN _ _ _) (congrArg (World.drewN _) (Nat.add_assoc _ _ _))⟩)) | (go_at_call 19; (with_reducible refine (gimballaw1_num.calls t130 t134 _ A52.out).mono ?_); rintro e w' ⟨rfl, ⟨nd, rfl⟩⟩; (try first | exact ⟨rfl, _, World.drewN_drewN _ _ _⟩ | exact ⟨rfl, _, Eq.trans (World.drewN_drewN _ _ _) (congrArg (World.drewN _) (Nat.add_assoc _ _ _))⟩)) | (go_at_call 19; (with_reducible refine (gimballaw1_num.calls t132 t135 _ A54.out).mono ?_); rintro e w' ⟨rfl, ⟨nd, rfl⟩⟩; (try first | exact ⟨rfl, _, World.drewN_drewN _ _ _⟩ | exact ⟨rfl, _, Eq.trans (World.drewN_drewN _ _ _) (congrArg (World.drewN _) (Nat.add_assoc _ _ _))⟩)))
                                              repeat (go_quiet (first | (go_at_call 22; (with_reducible refine (fx_Ratio.calls x4_17 ((rd_T24 l0 x3_1).f1) t127 t128 _ A47.out).mono ?_); rintro e w58 ⟨rfl, hb⟩; have n0_ := Aside0.mk (below_step (by repeat (first | (with_reducible first | exact HB.out | apply below_alloc | apply pw_below_drewN | apply below_drew1) | exact HB.out)) hb); clear HB; have HB := n0_; clear n0_; (try clear hb); (try clear hb2); (try clear hk); (try clear hi)) | (go_at_call 22; (with_reducible refine (fx_Ratio.calls (wrap64 (3 * x4_17)) (wrap64 (3 * ((rd_T24 l0 x3_1).f1))) t129 t130 _ A48.out).mono ?_); rintro e w59 ⟨rfl, hb⟩; have n0_ := Aside0.mk (below_step (by repeat (first | (with_reducible first | exact HB.out | apply below_alloc | apply pw_below_drewN | apply below_drew1) | exact HB.out)) hb); clear HB; have HB := n0_; clear n0_; (try clear hb); (try clear hb2); (try clear hk); (try clear hi)) | (go_at_call 22; (with_reducible refine (fx_Ratio.calls (wrap64 (-x4_17)) ((rd_T24 l0 x3_1).f1) t131 t132 _ A49.out).mono ?_); rintro e w60 ⟨rfl, hb⟩; have n0_ := Aside0.mk (below_step (by repeat (first | (with_reducible first | exact HB.out | apply below_alloc | apply pw_below_drewN | apply below_drew1) | exact HB.out)) hb); clear HB; have HB := n0_; clear n0_; (try clear hb); (try clear hb2); (try clear hk); (try clear hi)) | (go_at_call 19; (with_reducible refine (gimballaw1_num.calls t128 t133 _ A50.out).mono ?_); rintro e w' ⟨rfl, ⟨nd, rfl⟩⟩; (try first | exact ⟨rfl, _, World.drewN_drewN _ _ _⟩ | exact ⟨rfl, _, Eq.trans (World.drewN_drewN _ _ _) (congrArg (World.drewN _) (Nat.add_assoc _ _ _))⟩)) | (go_at_call 19; (with_reducible refine (gimballaw1_num.calls t130 t134 _ A52.out).mono ?_); rintro e w' ⟨rfl, ⟨nd, rfl⟩⟩; (try first | exact ⟨rfl, _, World.drewN_drewN _ _ _⟩ | exact ⟨rfl, _, Eq.trans (World.drewN_drewN _ _ _) (congrArg (World.drewN _) (Nat.add_assoc _ _ _))⟩)) | (go_at_call 19; (with_reducible refine (gimballaw1_num.calls t132 t135 _ A54.out).mono ?_); rintro e w' ⟨rfl, ⟨nd, rfl⟩⟩; (try first | exact ⟨rfl, _, World.drewN_drewN _ _ _⟩ | exact ⟨rfl, _, Eq.trans (World.drewN_drewN _ _ _) (congrArg (World.drewN _) (Nat.add_assoc _ _ _))⟩))); try go_wp2_with (first | (go_at_call 22; (with_reducible refine (fx_Ratio.calls x4_17 ((rd_T24 l0 x3_1).f1) t127 t128 _ A47.out).mono ?_); rintro e w58 ⟨rfl, hb⟩; have n0_ := Aside0.mk (below_step (by repeat (first | (with_reducible first | exact HB.out | apply below_alloc | apply pw_below_drewN | apply below_drew1) | exact HB.out)) hb); clear HB; have HB := n0_; clear n0_; (try clear hb); (try clear hb2); (try clear hk); (try clear hi)) | (go_at_call 22; (with_reducible refine (fx_Ratio.calls (wrap64 (3 * x4_17)) (wrap64 (3 * ((rd_T24 l0 x3_1).f1))) t129 t130 _ A48.out).mono ?_); rintro e w59 ⟨rfl, hb⟩; have n0_ := Aside0.mk (below_step (by repeat (first | (with_reducible first | exact HB.out | apply below_alloc | apply pw_below_drewN | apply below_drew1) | exact HB.out)) hb); clear HB; have HB := n0_; clear n0_; (try clear hb); (try clear hb2); (try clear hk); (try clear hi)) | (go_at_call 22; (with_reducible refine (fx_Ratio.calls (wrap64 (-x4_17)) ((rd_T24 l0 x3_1).f1) t131 t132 _ A49.out).mono ?_); rintro e w60 ⟨rfl, hb⟩; have n0_ := Aside0.mk (below_step (by repeat (first | (with_reducible first | exact HB.out | apply below_alloc | apply pw_below_drewN | apply below_drew1) | exact HB.out)) hb); clear HB; have HB := n0_; clear n0_; (try clear hb); (try clear hb2); (try clear hk); (try clear hi)) | (go_at_call 19; (with_reducible refine (gimballaw1_num.calls t128 t133 _ A50.out).mono ?_); rintro e w' ⟨rfl, ⟨nd, rfl⟩⟩; (try first | exact ⟨rfl, _, World.drewN_drewN _ _ _⟩ | exact ⟨rfl, _, Eq.trans (World.drewN_drewN _ _ _) (congrArg (World.drewN _) (Nat.add_assoc _ _ _))⟩)) | (go_at_call 19; (with_reducible refine (gimballaw1_num.calls t130 t134 _ A52.out).mono ?_); rintro e w' ⟨rfl, ⟨nd, rfl⟩⟩; (try first | exact ⟨rfl, _, World.drewN_drewN _ _ _⟩ | exact ⟨rfl, _, Eq.trans (World.drewN_drewN _ _ _) (congrArg (World.drewN _) (Nat.add_assoc _ _ _))⟩)) | (go_at_call 19; (with_reducible refine (gimballaw1_num.calls t132 t135 _ A54.out).mono ?_); rintro e w' ⟨rfl, ⟨nd, rfl⟩⟩; (try first | exact ⟨rfl, _, World.drewN_drewN _ _ _⟩ | exact ⟨rfl, _, Eq.trans (World.drewN_drewN _ _ _) (congrArg (World.drewN _) (Nat.add_assoc _ _ _))⟩))))
                                              go_roundg kj23
                                              case measure => have := HK1.out; have := HJ1.out; have := HJ9.out; have := HJ17.out; have := HJ23.out; omega
                                              case rel => exact ⟨(wrap64 (x3_1 + 1)), (by first | rfl | (simp; done) | (simp [*]; done)), H', ⟨by have := HK1.out; have := HJ1.out; have := HJ9.out; have := HJ17.out; have := HJ23.out; omega⟩, ⟨by repeat (first | (with_reducible first | exact HB.out | apply below_alloc | apply pw_below_drewN | apply below_drew1) | exact HB.out)⟩⟩
                                            · rw [if_neg c57] at H
                                              have c57b0 : (t131 == (wrap64 (-t127))) = false := beq_eq_false_iff_ne.mpr c57
                                              have c57b1 : (t131 != (wrap64 (-t127))) = true := bne_iff_ne.mpr c57
                                              obtain rfl := Option.some.inj H
                                              go_wp2_with (first | (go_at_call 22; (with_reducible refine (fx_Ratio.calls x4_17 ((rd_T24 l0 x3_1).f1) t127 t128 _ A47.out).mono ?_); rintro e w61 ⟨rfl, hb⟩; have n0_ := Aside0.mk (below_step (by repeat (first | (with_reducible first | exact HB.out | apply below_alloc | apply pw_below_drewN | apply below_drew1) | exact HB.out)) hb); clear HB; have HB := n0_; clear n0_; (try clear hb); (try clear hb2); (try clear hk); (try clear hi)) | (go_at_call 22; (with_reducible refine (fx_Ratio.calls (wrap64 (3 * x4_17)) (wrap64 (3 * ((rd_T24 l0 x3_1).f1))) t129 t130 _ A48.out).mono ?_); rintro e w62 ⟨rfl, hb⟩; have n0_ := Aside0.mk (below_step (by repeat (first | (with_reducible first | exact HB.out | apply below_alloc | apply pw_below_drewN | apply below_drew1) | exact HB.out)) hb); clear HB; have HB := n0_; clear n0_; (try clear hb); (try clear hb2); (try clear hk); (try clear hi)) | (go_at_call 22; (with_reducible refine (fx_Ratio.calls (wrap64 (-x4_17)) ((rd_T24 l0 x3_1).f1) t131 t132 _ A49.out).mono ?_); rintro e w63 ⟨rfl, hb⟩; have n0_ := Aside0.mk (below_step (by repeat (first | (with_reducible first | exact HB.out | apply below_alloc | apply pw_below_drewN | apply below_drew1) | exact HB.out)) hb); clear HB; have HB := n0_; clear n0_; (try clear hb); (try clear hb2); (try clear hk); (try clear hi)) | (go_at_call 19; (with_reducible refine (gimballaw1_num.calls t128 t133 _ A50.out).mono ?_); rintro e w' ⟨rfl, ⟨nd, rfl⟩⟩; (try first | exact ⟨rfl, _, World.drewN_drewN _ _ _⟩ | exact ⟨rfl, _, Eq.trans (World.drewN_drewN _ _ _) (congrArg (World.drewN _) (Nat.add_assoc _ _ _))⟩)) | (go_at_call 19; (with_reducible refine (gimballaw1_num.calls t130 t134 _ A52.out).mono ?_); rintro e w' ⟨rfl, ⟨nd, rfl⟩⟩; (try first | exact ⟨rfl, _, World.drewN_drewN _ _ _⟩ | exact ⟨rfl, _, Eq.trans (World.drewN_drewN _ _ _) (congrArg (World.drewN _) (Nat.add_assoc _ _ _))⟩)) | (go_at_call 19; (with_reducible refine (gimballaw1_num.calls t132 t135 _ A54.out).mono ?_); rintro e w' ⟨rfl, ⟨nd, rfl⟩⟩; (try first | exact ⟨rfl, _, World.drewN_drewN _ _ _⟩ | exact ⟨rfl, _, Eq.trans (World.drewN_drewN _ _ _) (congrArg (World.drewN _) (Nat.add_assoc _ _ _))⟩)))
                                              repeat (go_quiet (first | (go_at_call 22; (with_reducible refine (fx_Ratio.calls x4_17 ((rd_T24 l0 x3_1).f1) t127 t128 _ A47.out).mono ?_); rintro e w61 ⟨rfl, hb⟩; have n0_ := Aside0.mk (below_step (by repeat (first | (with_reducible first | exact HB.out | apply below_alloc | apply pw_below_drewN | apply below_drew1) | exact HB.out)) hb); clear HB; have HB := n0_; clear n0_; (try clear hb); (try clear hb2); (try clear hk); (try clear hi)) | (go_at_call 22; (with_reducible refine (fx_Ratio.calls (wrap64 (3 * x4_17)) (wrap64 (3 * ((rd_T24 l0 x3_1).f1))) t129 t130 _ A48.out).mono ?_); rintro e w62 ⟨rfl, hb⟩; have n0_ := Aside0.mk (below_step (by repeat (first | (with_reducible first | exact HB.out | apply below_alloc | apply pw_below_drewN | apply below_drew1) | exact HB.out)) hb); clear HB; have HB := n0_; clear n0_; (try clear hb); (try clear hb2); (try clear hk); (try clear hi)) | (go_at_call 22; (with_reducible refine (fx_Ratio.calls (wrap64 (-x4_17)) ((rd_T24 l0 x3_1).f1) t131 t132 _ A49.out).mono ?_); rintro e w63 ⟨rfl, hb⟩; have n0_ := Aside0.mk (below_step (by repeat (first | (with_reducible first | exact HB.out | apply below_alloc | apply pw_below_drewN | apply below_drew1) | exact HB.out)) hb); clear HB; have HB := n0_; clear n0_; (try clear hb); (try clear hb2); (try clear hk); (try clear hi)) | (go_at_call 19; (with_reducible refine (gimballaw1_num.calls t128 t133 _ A50.out).mono ?_); rintro e w' ⟨rfl, ⟨nd, rfl⟩⟩; (try first | exact ⟨rfl, _, World.drewN_drewN _ _ _⟩ | exact ⟨rfl, _, Eq.trans (World.drewN_drewN _ _ _) (congrArg (World.drewN _) (Nat.add_assoc _ _ _))⟩)) | (go_at_call 19; (with_reducible refine (gimballaw1_num.calls t130 t134 _ A52.out).mono ?_); rintro e w' ⟨rfl, ⟨nd, rfl⟩⟩; (try first | exact ⟨rfl, _, World.drewN_drewN _ _ _⟩ | exact ⟨rfl, _, Eq.trans (World.drewN_drewN _ _ _) (congrArg (World.drewN _) (Nat.add_assoc _ _ _))⟩)) | (go_at_call 19; (with_reducible refine (gimballaw1_num.calls t132 t135 _ A54.out).mono ?_); rintro e w' ⟨rfl, ⟨nd, rfl⟩⟩; (try first | exact ⟨rfl, _, World.drewN_drewN _ _ _⟩ | exact ⟨rfl, _, Eq.trans (World.drewN_drewN _ _ _) (congrArg (World.drewN _) (Nat.add_assoc _ _ _))⟩))); try go_wp2_with (first | (go_at_call 22; (with_reducible refine (fx_Ratio.calls x4_17 ((rd_T24 l0 x3_1).f1) t127 t128 _ A47.out).mono ?_); rintro e w61 ⟨rfl, hb⟩; have n0_ := Aside0.mk (below_step (by repeat (first | (with_reducible first | exact HB.out | apply below_alloc | apply pw_below_drewN | apply below_drew1) | exact HB.out)) hb); clear HB; have HB := n0_; clear n0_; (try clear hb); (try clear hb2); (try clear hk); (try clear hi)) | (go_at_call 22; (with_reducible refine (fx_Ratio.calls (wrap64 (3 * x4_17)) (wrap64 (3 * ((rd_T24 l0 x3_1).f1))) t129 t130 _ A48.out).mono ?_); rintro e w62 ⟨rfl, hb⟩; have n0_ := Aside0.mk (below_step (by repeat (first | (with_reducible first | exact HB.out | apply below_alloc | apply pw_below_drewN | apply below_drew1) | exact HB.out)) hb); clear HB; have HB := n0_; clear n0_; (try clear hb); (try clear hb2); (try clear hk); (try clear hi)) | (go_at_call 22; (with_reducible refine (fx_Ratio.calls (wrap64 (-x4_17)) ((rd_T24 l0 x3_1).f1) t131 t132 _ A49.out).mono ?_); rintro e w63 ⟨rfl, hb⟩; have n0_ := Aside0.mk (below_step (by repeat (first | (with_reducible first | exact HB.out | apply below_alloc | apply pw_below_drewN | apply below_drew1) | exact HB.out)) hb); clear HB; have HB := n0_; clear n0_; (try clear hb); (try clear hb2); (try clear hk); (try clear hi)) | (go_at_call 19; (with_reducible refine (gimballaw1_num.calls t128 t133 _ A50.out).mono ?_); rintro e w' ⟨rfl, ⟨nd, rfl⟩⟩; (try first | exact ⟨rfl, _, World.drewN_drewN _ _ _⟩ | exact ⟨rfl, _, Eq.trans (World.drewN_drewN _ _ _) (congrArg (World.drewN _) (Nat.add_assoc _ _ _))⟩)) | (go_at_call 19; (with_reducible refine (gimballaw1_num.calls t130 t134 _ A52.out).mono ?_); rintro e w' ⟨rfl, ⟨nd, rfl⟩⟩; (try first | exact ⟨rfl, _, World.drewN_drewN _ _ _⟩ | exact ⟨rfl, _, Eq.trans (World.drewN_drewN _ _ _) (congrArg (World.drewN _) (Nat.add_assoc _ _ _))⟩)) | (go_at_call 19; (with_reducible refine (gimballaw1_num.calls t132 t135 _ A54.out).mono ?_); rintro e w' ⟨rfl, ⟨nd, rfl⟩⟩; (try first | exact ⟨rfl, _, World.drewN_drewN _ _ _⟩ | exact ⟨rfl, _, Eq.trans (World.drewN_drewN _ _ _) (congrArg (World.drewN _) (Nat.add_assoc _ _ _))⟩))))
                                              go_ret
                                              exact ⟨by first | rfl | (simp [errW_none, errW_some] <;> rfl) | (simp only [← hji7]; first | rfl | (simp [errW_none, errW_some] <;> rfl)) | (simp [*, errW_none, errW_some] <;> rfl), by repeat (first | (with_reducible first | exact HB.out | apply below_alloc | apply pw_below_drewN | apply below_drew1) | exact HB.out)⟩
                                          · rw [if_neg c56] at H
                                            have c56b0 : (t127 == t129) = false := beq_eq_false_iff_ne.mpr c56
                                            have c56b1 : (t127 != t129) = true := bne_iff_ne.mpr c56
                                            obtain rfl := Option.some.inj H
                                            go_wp2_with (first | (go_at_call 22; (with_reducible refine (fx_Ratio.calls x4_17 ((rd_T24 l0 x3_1).f1) t127 t128 _ A47.out).mono ?_); rintro e w64 ⟨rfl, hb⟩; have n0_ := Aside0.mk (below_step (by repeat (first | (with_reducible first | exact HB.out | apply below_alloc | apply pw_below_drewN | apply below_drew1) | exact HB.out)) hb); clear HB; have HB := n0_; clear n0_; (try clear hb); (try clear hb2); (try clear hk); (try clear hi)) | (go_at_call 22; (with_reducible refine (fx_Ratio.calls (wrap64 (3 * x4_17)) (wrap64 (3 * ((rd_T24 l0 x3_1).f1))) t129 t130 _ A48.out).mono ?_); rintro e w65 ⟨rfl, hb⟩; have n0_ := Aside0.mk (below_step (by repeat (first | (with_reducible first | exact HB.out | apply below_alloc | apply pw_below_drewN | apply below_drew1) | exact HB.out)) hb); clear HB; have HB := n0_; clear n0_; (try clear hb); (try clear hb2); (try clear hk); (try clear hi)) | (go_at_call 22; (with_reducible refine (fx_Ratio.calls (wrap64 (-x4_17)) ((rd_T24 l0 x3_1).f1) t131 t132 _ A49.out).mono ?_); rintro e w66 ⟨rfl, hb⟩; have n0_ := Aside0.mk (below_step (by repeat (first | (with_reducible first | exact HB.out | apply below_alloc | apply pw_below_drewN | apply below_drew1) | exact HB.out)) hb); clear HB; have HB := n0_; clear n0_; (try clear hb); (try clear hb2); (try clear hk); (try clear hi)) | (go_at_call 19; (with_reducible refine (gimballaw1_num.calls t128 t133 _ A50.out).mono ?_); rintro e w' ⟨rfl, ⟨nd, rfl⟩⟩; (try first | exact ⟨rfl, _, World.drewN_drewN _ _ _⟩ | exact ⟨rfl, _, Eq.trans (World.drewN_drewN _ _ _) (congrArg (World.drewN _) (Nat.add_assoc _ _ _))⟩)) | (go_at_call 19; (with_reducible refine (gimballaw1_num.calls t130 t134 _ A52.out).mono ?_); rintro e w' ⟨rfl, ⟨nd, rfl⟩⟩; (try first | exact ⟨rfl, _, World.drewN_drewN _ _ _⟩ | exact ⟨rfl, _, Eq.trans (World.drewN_drewN _ _ _) (congrArg (World.drewN _) (Nat.add_assoc _ _ _))⟩)) | (go_at_call 19; (with_reducible refine (gimballaw1_num.calls t132 t135 _ A54.out).mono ?_); rintro e w' ⟨rfl, ⟨nd, rfl⟩⟩; (try first | exact ⟨rfl, _, World.drewN_drewN _ _ _⟩ | exact ⟨rfl, _, Eq.trans (World.drewN_drewN _ _ _) (congrArg (World.drewN _) (Nat.add_assoc _ _ _))⟩)))
                                            repeat (go_quiet (first | (go_at_call 22; (with_reducible refine (fx_Ratio.calls x4_17 ((rd_T24 l0 x3_1).f1) t127 t128 _ A47.out).mono ?_); rintro e w64 ⟨rfl, hb⟩; have n0_ := Aside0.mk (below_step (by repeat (first | (with_reducible first | exact HB.out | apply below_alloc | apply pw_below_drewN | apply below_drew1) | exact HB.out)) hb); clear HB; have HB := n0_; clear n0_; (try clear hb); (try clear hb2); (try clear hk); (try clear hi)) | (go_at_call 22; (with_reducible refine (fx_Ratio.calls (wrap64 (3 * x4_17)) (wrap64 (3 * ((rd_T24 l0 x3_1).f1))) t129 t130 _ A48.out).mono ?_); rintro e w65 ⟨rfl, hb⟩; have n0_ := Aside0.mk (below_step (by repeat (first | (with_reducible first | exact HB.out | apply below_alloc | apply pw_below_drewN | apply below_drew1) | exact HB.out)) hb); clear HB; have HB := n0_; clear n0_; (try clear hb); (try clear hb2); (try clear hk); (try clear hi)) | (go_at_call 22; (with_reducible refine (fx_Ratio.calls (wrap64 (-x4_17)) ((rd_T24 l0 x3_1).f1) t131 t132 _ A49.out).mono ?_); rintro e w66 ⟨rfl, hb⟩; have n0_ := Aside0.mk (below_step (by repeat (first | (with_reducible first | exact HB.out | apply below_alloc | apply pw_below_drewN | apply below_drew1) | exact HB.out)) hb); clear HB; have HB := n0_; clear n0_; (try clear hb); (try clear hb2); (try clear hk); (try clear hi)) | (go_at_call 19; (with_reducible refine (gimballaw1_num.calls t128 t133 _ A50.out).mono ?_); rintro e w' ⟨rfl, ⟨nd, rfl⟩⟩; (try first | exact ⟨rfl, _, World.drewN_drewN _ _ _⟩ | exact ⟨rfl, _, Eq.trans (World.drewN_drewN _ _ _) (congrArg (World.drewN _) (Nat.add_assoc _ _ _))⟩)) | (go_at_call 19; (with_reducible refine (gimballaw1_num.calls t130 t134 _ A52.out).mono ?_); rintro e w' ⟨rfl, ⟨nd, rfl⟩⟩; (try first | exact ⟨rfl, _, World.drewN_drewN _ _ _⟩ | exact ⟨rfl, _, Eq.trans (World.drewN_drewN _ _ _) (congrArg (World.drewN _) (Nat.add_assoc _ _ _))⟩)) | (go_at_call 19; (with_reducible refine (gimballaw1_num.calls t132 t135 _ A54.out).mono ?_); rintro e w' ⟨rfl, ⟨nd, rfl⟩⟩; (try first | exact ⟨rfl, _, World.drewN_drewN _ _ _⟩ | exact ⟨rfl, _, Eq.trans (World.drewN_drewN _ _ _) (congrArg (World.drewN _) (Nat.add_assoc _ _ _))⟩))); try go_wp2_with (first | (go_at_call 22; (with_reducible refine (fx_Ratio.calls x4_17 ((rd_T24 l0 x3_1).f1) t127 t128 _ A47.out).mono ?_); rintro e w64 ⟨rfl, hb⟩; have n0_ := Aside0.mk (below_step (by repeat (first | (with_reducible first | exact HB.out | apply below_alloc | apply pw_below_drewN | apply below_drew1) | exact HB.out)) hb); clear HB; have HB := n0_; clear n0_; (try clear hb); (try clear hb2); (try clear hk); (try clear hi)) | (go_at_call 22; (with_reducible refine (fx_Ratio.calls (wrap64 (3 * x4_17)) (wrap64 (3 * ((rd_T24 l0 x3_1).f1))) t129 t130 _ A48.out).mono ?_); rintro e w65 ⟨rfl, hb⟩; have n0_ := Aside0.mk (below_step (by repeat (first | (with_reducible first | exact HB.out | apply below_alloc | apply pw_below_drewN | apply below_drew1) | exact HB.out)) hb); clear HB; have HB := n0_; clear n0_; (try clear hb); (try clear hb2); (try clear hk); (try clear hi)) | (go_at_call 22; (with_reducible refine (fx_Ratio.calls (wrap64 (-x4_17)) ((rd_T24 l0 x3_1).f1) t131 t132 _ A49.out).mono ?_); rintro e w66 ⟨rfl, hb⟩; have n0_ := Aside0.mk (below_step (by repeat (first | (with_reducible first | exact HB.out | apply below_alloc | apply pw_below_drewN | apply below_drew1) | exact HB.out)) hb); clear HB; have HB := n0_; clear n0_; (try clear hb); (try clear hb2); (try clear hk); (try clear hi)) | (go_at_call 19; (with_reducible refine (gimballaw1_num.calls t128 t133 _ A50.out).mono ?_); rintro e w' ⟨rfl, ⟨nd, rfl⟩⟩; (try first | exact ⟨rfl, _, World.drewN_drewN _ _ _⟩ | exact ⟨rfl, _, Eq.trans (World.drewN_drewN _ _ _) (congrArg (World.drewN _) (Nat.add_assoc _ _ _))⟩)) | (go_at_call 19; (with_reducible refine (gimballaw1_num.calls t130 t134 _ A52.out).mono ?_); rintro e w' ⟨rfl, ⟨nd, rfl⟩⟩; (try first | exact ⟨rfl, _, World.drewN_drewN _ _ _⟩ | exact ⟨rfl, _, Eq.trans (World.drewN_drewN _ _ _) (congrArg (World.drewN _) (Nat.add_assoc _ _ _))⟩)) | (go_at_call 19; (with_reducible refine (gimballaw1_num.calls t132 t135 _ A54.out).mono ?_); rintro e w' ⟨rfl, ⟨nd, rfl⟩⟩; (try first | exact ⟨rfl, _, World.drewN_drewN _ _ _⟩ | exact ⟨rfl, _, Eq.trans (World.drewN_drewN _ _ _) (congrArg (World.drewN _) (Nat.add_assoc _ _ _))⟩))))
                                            go_ret
                                            exact ⟨by first | rfl | (simp [errW_none, errW_some] <;> rfl) | (simp only [← hji7]; first | rfl | (simp [errW_none, errW_some] <;> rfl)) | (simp [*, errW_none, errW_some] <;> rfl), by repeat (first | (with_reducible first | exact HB.out | apply below_alloc | apply pw_below_drewN | apply below_drew1) | exact HB.out)⟩
                                        · rw [if_neg c55] at H
                                          have c55b0 : (t135 == 0) = false := beq_eq_false_iff_ne.mpr c55
                                          have c55b1 : (t135 != 0) = true := bne_iff_ne.mpr c55
                                          obtain rfl := Option.some.inj H
                                          go_wp2_with (first | (go_at_call 22; (with_reducible refine (fx_Ratio.calls x4_17 ((rd_T24 l0 x3_1).f1) t127 t128 _ A47.out).mono ?_); rintro e w67 ⟨rfl, hb⟩; have n0_ := Aside0.mk (below_step (by repeat (first | (with_reducible first | exact HB.out | apply below_alloc | apply pw_below_drewN | apply below_drew1) | exact HB.out)) hb); clear HB; have HB := n0_; clear n0_; (try clear hb); (try clear hb2); (try clear hk); (try clear hi)) | (go_at_call 22; (with_reducible refine (fx_Ratio.calls (wrap64 (3 * x4_17)) (wrap64 (3 * ((rd_T24 l0 x3_1).f1))) t129 t130 _ A48.out).mono ?_); rintro e w68 ⟨rfl, hb⟩; have n0_ := Aside0.mk (below_step (by repeat (first | (with_reducible first | exact HB.out | apply below_alloc | apply pw_below_drewN | apply below_drew1) | exact HB.out)) hb); clear HB; have HB := n0_; clear n0_; (try clear hb); (try clear hb2); (try clear hk); (try clear hi)) | (go_at_call 22; (with_reducible refine (fx_Ratio.calls (wrap64 (-x4_17)) ((rd_T24 l0 x3_1).f1) t131 t132 _ A49.out).mono ?_); rintro e w69 ⟨rfl, hb⟩; have n0_ := Aside0.mk (below_step (by repeat (first | (with_reducible first | exact HB.out | apply below_alloc | apply pw_below_drewN | apply below_drew1) | exact HB.out)) hb); clear HB; have HB := n0_; clear n0_; (try clear hb); (try clear hb2); (try clear hk); (try clear hi)) | (go_at_call 19; (with_reducible refine (gimballaw1_num.calls t128 t133 _ A50.out).mono ?_); rintro e w' ⟨rfl, ⟨nd, rfl⟩⟩; (try first | exact ⟨rfl, _, World.drewN_drewN _ _ _⟩ | exact ⟨rfl, _, Eq.trans (World.drewN_drewN _ _ _) (congrArg (World.drewN _) (Nat.add_assoc _ _ _))⟩)) | (go_at_call 19; (with_reducible refine (gimballaw1_num.calls t130 t134 _ A52.out).mono ?_); rintro e w' ⟨rfl, ⟨nd, rfl⟩⟩; (try first | exact ⟨rfl, _, World.drewN_drewN _ _ _⟩ | exact ⟨rfl, _, Eq.trans (World.drewN_drewN _ _ _) (congrArg (World.drewN _) (Nat.add_assoc _ _ _))⟩)) | (go_at_call 19; (with_reducible refine (gimballaw1_num.calls t132 t135 _ A54.out).mono ?_); rintro e w' ⟨rfl, ⟨nd, rfl⟩⟩; (try first | exact ⟨rfl, _, World.drewN_drewN _ _ _⟩ | exact ⟨rfl, _, Eq.trans (World.drewN_drewN _ _ _) (congrArg (World.drewN _) (Nat.add_assoc _ _ _))⟩)))
                                          repeat (go_quiet (first | (go_at_call 22; (with_reducible refine (fx_Ratio.calls x4_17 ((rd_T24 l0 x3_1).f1) t127 t128 _ A47.out).mono ?_); rintro e w67 ⟨rfl, hb⟩; have n0_ := Aside0.mk (below_step (by repeat (first | (with_reducible first | exact HB.out | apply below_alloc | apply pw_below_drewN | apply below_drew1) | exact HB.out)) hb); clear HB; have HB := n0_; clear n0_; (try clear hb); (try clear hb2); (try clear hk); (try clear hi)) | (go_at_call 22; (with_reducible refine (fx_Ratio.calls (wrap64 (3 * x4_17)) (wrap64 (3 * ((rd_T24 l0 x3_1).f1))) t129 t130 _ A48.out).mono ?_); rintro e w68 ⟨rfl, hb⟩; have n0_ := Aside0.mk (below_step (by repeat (first | (with_reducible first | exact HB.out | apply below_alloc | apply pw_below_drewN | apply below_drew1) | exact HB.out)) hb); clear HB; have HB := n0_; clear n0_; (try clear hb); (try clear hb2); (try clear hk); (try clear hi)) | (go_at_call 22; (with_reducible refine (fx_Ratio.calls (wrap64 (-x4_17)) ((rd_T24 l0 x3_1).f1) t131 t132 _ A49.out).mono ?_); rintro e w69 ⟨rfl, hb⟩; have n0_ := Aside0.mk (below_step (by repeat (first | (with_reducible first | exact HB.out | apply below_alloc | apply pw_below_drewN | apply below_drew1) | exact HB.out)) hb); clear HB; have HB := n0_; clear n0_; (try clear hb); (try clear hb2); (try clear hk); (try clear hi)) | (go_at_call 19; (with_reducible refine (gimballaw1_num.calls t128 t133 _ A50.out).mono ?_); rintro e w' ⟨rfl, ⟨nd, rfl⟩⟩; (try first | exact ⟨rfl, _, World.drewN_drewN _ _ _⟩ | exact ⟨rfl, _, Eq.trans (World.drewN_drewN _ _ _) (congrArg (World.drewN _) (Nat.add_assoc _ _ _))⟩)) | (go_at_call 19; (with_reducible refine (gimballaw1_num.calls t130 t134 _ A52.out).mono ?_); rintro e w' ⟨rfl, ⟨nd, rfl⟩⟩; (try first | exact ⟨rfl, _, World.drewN_drewN _ _ _⟩ | exact ⟨rfl, _, Eq.trans (World.drewN_drewN _ _ _) (congrArg (World.drewN _) (Nat.add_assoc _ _ _))⟩)) | (go_at_call 19; (with_reducible refine (gimballaw1_num.calls t132 t135 _ A54.out).mono ?_); rintro e w' ⟨rfl, ⟨nd, rfl⟩⟩; (try first | exact ⟨rfl, _, World.drewN_drewN _ _ _⟩ | exact ⟨rfl, _, Eq.trans (World.drewN_drewN _ _ _) (congrArg (World.drewN _) (Nat.add_assoc _ _ _))⟩))); try go_wp2_with (first | (go_at_call 22; (with_reducible refine (fx_Ratio.calls x4_17 ((rd_T24 l0 x3_1).f1) t127 t128 _ A47.out).mono ?_); rintro e w67 ⟨rfl, hb⟩; have n0_ := Aside0.mk (below_step (by repeat (first | (with_reducible first | exact HB.out | apply below_alloc | apply pw_below_drewN | apply below_drew1) | exact HB.out)) hb); clear HB; have HB := n0_; clear n0_; (try clear hb); (try clear hb2); (try clear hk); (try clear hi)) | (go_at_call 22; (with_reducible refine (fx_Ratio.calls (wrap64 (3 * x4_17)) (wrap64 (3 * ((rd_T24 l0 x3_1).f1))) t129 t130 _ A48.out).mono ?_); rintro e w68 ⟨rfl, hb⟩; have n0_ := Aside0.mk (below_step (by repeat (first | (with_reducible first | exact HB.out | apply below_alloc | apply pw_below_drewN | apply below_drew1) | exact HB.out)) hb); clear HB; have HB := n0_; clear n0_; (try clear hb); (try clear hb2); (try clear hk); (try clear hi)) | (go_at_call 22; (with_reducible refine (fx_Ratio.calls (wrap64 (-x4_17)) ((rd_T24 l0 x3_1).f1) t131 t132 _ A49.out).mono ?_); rintro e w69 ⟨rfl, hb⟩; have n0_ := Aside0.mk (below_step (by repeat (first | (with_reducible first | exact HB.out | apply below_alloc | apply pw_below_drewN | apply below_drew1) | exact HB.out)) hb); clear HB; have HB := n0_; clear n0_; (try clear hb); (try clear hb2); (try clear hk); (try clear hi)) | (go_at_call 19; (with_reducible refine (gimballaw1_num.calls t128 t133 _ A50.out).mono ?_); rintro e w' ⟨rfl, ⟨nd, rfl⟩⟩; (try first | exact ⟨rfl, _, World.drewN_drewN _ _ _⟩ | exact ⟨rfl, _, Eq.trans (World.drewN_drewN _ _ _) (congrArg (World.drewN _) (Nat.add_assoc _ _ _))⟩)) | (go_at_call 19; (with_reducible refine (gimballaw1_num.calls t130 t134 _ A52.out).mono ?_); rintro e w' ⟨rfl, ⟨nd, rfl⟩⟩; (try first | exact ⟨rfl, _, World.drewN_drewN _ _ _⟩ | exact ⟨rfl, _, Eq.trans (World.drewN_drewN _ _ _) (congrArg (World.drewN _) (Nat.add_assoc _ _ _))⟩)) | (go_at_call 19; (with_reducible refine (gimballaw1_num.calls t132 t135 _ A54.out).mono ?_); rintro e w' ⟨rfl, ⟨nd, rfl⟩⟩; (try first | exact ⟨rfl, _, World.drewN_drewN _ _ _⟩ | exact ⟨rfl, _, Eq.trans (World.drewN_drewN _ _ _) (congrArg (World.drewN _) (Nat.add_assoc _ _ _))⟩))))
                                          go_ret
                                          exact ⟨by first | rfl | (simp [errW_none, errW_some] <;> rfl) | (simp only [← hji7]; first | rfl | (simp [errW_none, errW_some] <;> rfl)) | (simp [*, errW_none, errW_some] <;> rfl), by repeat (first | (with_reducible first | exact HB.out | apply below_alloc | apply pw_below_drewN | apply below_drew1) | exact HB.out)⟩
                                      · rw [if_neg c53] at H
                                        have c53b0 : (t134 == 0) = false := beq_eq_false_iff_ne.mpr c53
                                        have c53b1 : (t134 != 0) = true := bne_iff_ne.mpr c53
                                        obtain rfl := Option.some.inj H
                                        go_wp2_with (first | (go_at_call 22; (with_reducible refine (fx_Ratio.calls x4_17 ((rd_T24 l0 x3_1).f1) t127 t128 _ A47.out).mono ?_); rintro e w70 ⟨rfl, hb⟩; have n0_ := Aside0.mk (below_step (by repeat (first | (with_reducible first | exact HB.out | apply below_alloc | apply pw_below_drewN | apply below_drew1) | exact HB.out)) hb); clear HB; have HB := n0_; clear n0_; (try clear hb); (try clear hb2); (try clear hk); (try clear hi)) | (go_at_call 22; (with_reducible refine (fx_Ratio.calls (wrap64 (3 * x4_17)) (wrap64 (3 * ((rd_T24 l0 x3_1).f1))) t129 t130 _ A48.out).mono ?_); rintro e w71 ⟨rfl, hb⟩; have n0_ := Aside0.mk (below_step (by repeat (first | (with_reducible first | exact HB.out | apply below_alloc | apply pw_below_drewN | apply below_drew1) | exact HB.out)) hb); clear HB; have HB := n0_; clear n0_; (try clear hb); (try clear hb2); (try clear hk); (try clear hi)) | (go_at_call 22; (with_reducible refine (fx_Ratio.calls (wrap64 (-x4_17)) ((rd_T24 l0 x3_1).f1) t131 t132 _ A49.out).mono ?_); rintro e w72 ⟨rfl, hb⟩; have n0_ := Aside0.mk (below_step (by repeat (first | (with_reducible first | exact HB.out | apply below_alloc | apply pw_below_drewN | apply below_drew1) | exact HB.out)) hb); clear HB; have HB := n0_; clear n0_; (try clear hb); (try clear hb2); (try clear hk); (try clear hi)) | (go_at_call 19; (with_reducible refine (gimballaw1_num.calls t128 t133 _ A50.out).mono ?_); rintro e w' ⟨rfl, ⟨nd, rfl⟩⟩; (try first | exact ⟨rfl, _, World.drewN_drewN _ _ _⟩ | exact ⟨rfl, _, Eq.trans (World.drewN_drewN _ _ _) (congrArg (World.drewN _) (Nat.add_assoc _ _ _))⟩)) | (go_at_call 19; (with_reducible refine (gimballaw1_num.calls t130 t134 _ A52.out).mono ?_); rintro e w' ⟨rfl, ⟨nd, rfl⟩⟩; (try first | exact ⟨rfl, _, World.drewN_drewN _ _ _⟩ | exact ⟨rfl, _, Eq.trans (World.drewN_drewN _ _ _) (congrArg (World.drewN _) (Nat.add_assoc _ _ _))⟩)))
                                        repeat (go_quiet (first | (go_at_call 22; (with_reducible refine (fx_Ratio.calls x4_17 ((rd_T24 l0 x3_1).f1) t127 t128 _ A47.out).mono ?_); rintro e w70 ⟨rfl, hb⟩; have n0_ := Aside0.mk (below_step (by repeat (first | (with_reducible first | exact HB.out | apply below_alloc | apply pw_below_drewN | apply below_drew1) | exact HB.out)) hb); clear HB; have HB := n0_; clear n0_; (try clear hb); (try clear hb2); (try clear hk); (try clear hi)) | (go_at_call 22; (with_reducible refine (fx_Ratio.calls (wrap64 (3 * x4_17)) (wrap64 (3 * ((rd_T24 l0 x3_1).f1))) t129 t130 _ A48.out).mono ?_); rintro e w71 ⟨rfl, hb⟩; have n0_ := Aside0.mk (below_step (by repeat (first | (with_reducible first | exact HB.out | apply below_alloc | apply pw_below_drewN | apply below_drew1) | exact HB.out)) hb); clear HB; have HB := n0_; clear n0_; (try clear hb); (try clear hb2); (try clear hk); (try clear hi)) | (go_at_call 22; (with_reducible refine (fx_Ratio.calls (wrap64 (-x4_17)) ((rd_T24 l0 x3_1).f1) t131 t132 _ A49.out).mono ?_); rintro e w72 ⟨rfl, hb⟩; have n0_ := Aside0.mk (below_step (by repeat (first | (with_reducible first | exact HB.out | apply below_alloc | apply pw_below_drewN | apply below_drew1) | exact HB.out)) hb); clear HB; have HB := n0_; clear n0_; (try clear hb); (try clear hb2); (try clear hk); (try clear hi)) | (go_at_call 19; (with_reducible refine (gimballaw1_num.calls t128 t133 _ A50.out).mono ?_); rintro e w' ⟨rfl, ⟨nd, rfl⟩⟩; (try first | exact ⟨rfl, _, World.drewN_drewN _ _ _⟩ | exact ⟨rfl, _, Eq.trans (World.drewN_drewN _ _ _) (congrArg (World.drewN _) (Nat.add_assoc _ _ _))⟩)) | (go_at_call 19; (with_reducible refine (gimballaw1_num.calls t130 t134 _ A52.out).mono ?_); rintro e w' ⟨rfl, ⟨nd, rfl⟩⟩; (try first | exact ⟨rfl, _, World.drewN_drewN _ _ _⟩ | exact ⟨rfl, _, Eq.trans (World.drewN_drewN _ _ _) (congrArg (World.drewN _) (Nat.add_assoc _ _ _))⟩))); try go_wp2_with (first | (go_at_call 22; (with_reducible refine (fx_Ratio.calls x4_17 ((rd_T24 l0 x3_1).f1) t127 t128 _ A47.out).mono ?_); rintro e w70 ⟨rfl, hb⟩; have n0_ := Aside0.mk (below_step (by repeat (first | (with_reducible first | exact HB.out | apply below_alloc | apply pw_below_drewN | apply below_drew1) | exact HB.out)) hb); clear HB; have HB := n0_; clear n0_; (try clear hb); (try clear hb2); (try clear hk); (try clear hi)) | (go_at_call 22; (with_reducible refine (fx_Ratio.calls (wrap64 (3 * x4_17)) (wrap64 (3 * ((rd_T24 l0 x3_1).f1))) t129 t130 _ A48.out).mono ?_); rintro e w71 ⟨rfl, hb⟩; have n0_ := Aside0.mk (below_step (by repeat (first | (with_reducible first | exact HB.out | apply below_alloc | apply pw_below_drewN | apply below_drew1) | exact HB.out)) hb); clear HB; have HB := n0_; clear n0_; (try clear hb); (try clear hb2); (try clear hk); (try clear hi)) | (go_at_call 22; (with_reducible refine (fx_Ratio.calls (wrap64 (-x4_17)) ((rd_T24 l0 x3_1).f1) t131 t132 _ A49.out).mono ?_); rintro e w72 ⟨rfl, hb⟩; have n0_ := Aside0.mk (below_step (by repeat (first | (with_reducible first | exact HB.out | apply below_alloc | apply pw_below_drewN | apply below_drew1) | exact HB.out)) hb); clear HB; have HB := n0_; clear n0_; (try clear hb); (try clear hb2); (try clear hk); (try clear hi)) | (go_at_call 19; (with_reducible refine (gimballaw1_num.calls t128 t133 _ A50.out).mono ?_); rintro e w' ⟨rfl, ⟨nd, rfl⟩⟩; (try first | exact ⟨rfl, _, World.drewN_drewN _ _ _⟩ | exact ⟨rfl, _, Eq.trans (World.drewN_drewN _ _ _) (congrArg (World.drewN _) (Nat.add_assoc _ _ _))⟩)) | (go_at_call 19; (with_reducible refine (gimballaw1_num.calls t130 t134 _ A52.out).mono ?_); rintro e w' ⟨rfl, ⟨nd, rfl⟩⟩; (try first | exact ⟨rfl, _, World.drewN_drewN _ _ _⟩ | exact ⟨rfl, _, Eq.trans (World.drewN_drewN _ _ _) (congrArg (World.drewN _) (Nat.add_assoc _ _ _))⟩))))
                                        go_ret
                                        exact ⟨by first | rfl | (simp [errW_none, errW_some] <;> rfl) | (simp only [← hji7]; first | rfl | (simp [errW_none, errW_some] <;> rfl)) | (simp [*, errW_none, errW_some] <;> rfl), by repeat (first | (with_reducible first | exact HB.out | apply below_alloc | apply pw_below_drewN | apply below_drew1) | exact HB.out)⟩
                                    · rw [if_neg c51] at H
                                      have c51b0 : (t133 == 0) = false := beq_eq_false_iff_ne.mpr c51
                                      have c51b1 : (t133 != 0) = true := bne_iff_ne.mpr c51
                                      obtain rfl := Option.some.inj H
                                      go_wp2_with (first | (go_at_call 22; (with_reducible refine (fx_Ratio.calls x4_17 ((rd_T24 l0 x3_1).f1) t127 t128 _ A47.out).mono ?_); rintro e w73 ⟨rfl, hb⟩; have n0_ := Aside0.mk (below_step (by repeat (first | (with_reducible first | exact HB.out | apply below_alloc | apply pw_below_drewN | apply below_drew1) | exact HB.out)) hb); clear HB; have HB := n0_; clear n0_; (try clear hb); (try clear hb2); (try clear hk); (try clear hi)) | (go_at_call 22; (with_reducible refine (fx_Ratio.calls (wrap64 (3 * x4_17)) (wrap64 (3 * ((rd_T24 l0 x3_1).f1))) t129 t130 _ A48.out).mono ?_); rintro e w74 ⟨rfl, hb⟩; have n0_ := Aside0.mk (below_step (by repeat (first | (with_reducible first | exact HB.out | apply below_alloc | apply pw_below_drewN | apply below_drew1) | exact HB.out)) hb); clear HB; have HB := n0_; clear n0_; (try clear hb); (try clear hb2); (try clear hk); (try clear hi)) | (go_at_call 22; (with_reducible refine (fx_Ratio.calls (wrap64 (-x4_17)) ((rd_T24 l0 x3_1).f1) t131 t132 _ A49.out).mono ?_); rintro e w75 ⟨rfl, hb⟩; have n0_ := Aside0.mk (below_step (by repeat (first | (with_reducible first | exact HB.out | apply below_alloc | apply pw_below_drewN | apply below_drew1) | exact HB.out)) hb); clear HB; have HB := n0_; clear n0_; (try clear hb); (try clear hb2); (try clear hk); (try clear hi)) | (go_at_call 19; (with_reducible refine (gimballaw1_num.calls t128 t133 _ A50.out).mono ?_); rintro e w' ⟨rfl, ⟨nd, rfl⟩⟩; (try first | exact ⟨rfl, _, World.drewN_drewN _ _ _⟩ | exact ⟨rfl, _, Eq.trans (World.drewN_drewN _ _ _) (congrArg (World.drewN _) (Nat.add_assoc _ _ _))⟩)))
                                      repeat (go_quiet (first | (go_at_call 22; (with_reducible refine (fx_Ratio.calls x4_17 ((rd_T24 l0 x3_1).f1) t127 t128 _ A47.out).mono ?_); rintro e w73 ⟨rfl, hb⟩; have n0_ := Aside0.mk (below_step (by repeat (first | (with_reducible first | exact HB.out | apply below_alloc | apply pw_below_drewN | apply below_drew1) | exact HB.out)) hb); clear HB; have HB := n0_; clear n0_; (try clear hb); (try clear hb2); (try clear hk); (try clear hi)) | (go_at_call 22; (with_reducible refine (fx_Ratio.calls (wrap64 (3 * x4_17)) (wrap64 (3 * ((rd_T24 l0 x3_1).f1))) t129 t130 _ A48.out).mono ?_); rintro e w74 ⟨rfl, hb⟩; have n0_ := Aside0.mk (below_step (by repeat (first | (with_reducible first | exact HB.out | apply below_alloc | apply pw_below_drewN | apply below_drew1) | exact HB.out)) hb); clear HB; have HB := n0_; clear n0_; (try clear hb); (try clear hb2); (try clear hk); (try clear hi)) | (go_at_call 22; (with_reducible refine (fx_Ratio.calls (wrap64 (-x4_17)) ((rd_T24 l0 x3_1).f1) t131 t132 _ A49.out).mono ?_); rintro e w75 ⟨rfl, hb⟩; have n0_ := Aside0.mk (below_step (by repeat (first | (with_reducible first | exact HB.out | apply below_alloc | apply pw_below_drewN | apply below_drew1) | exact HB.out)) hb); clear HB; have HB := n0_; clear n0_; (try clear hb); (try clear hb2); (try clear hk); (try clear hi)) | (go_at_call 19; (with_reducible refine (gimballaw1_num.calls t128 t133 _ A50.out).mono ?_); rintro e w' ⟨rfl, ⟨nd, rfl⟩⟩; (try first | exact ⟨rfl, _, World.drewN_drewN _ _ _⟩ | exact ⟨rfl, _, Eq.trans (World.drewN_drewN _ _ _) (congrArg (World.drewN _) (Nat.add_assoc _ _ _))⟩))); try go_wp2_with (first | (go_at_call 22; (with_reducible refine (fx_Ratio.calls x4_17 ((rd_T24 l0 x3_1).f1) t127 t128 _ A47.out).mono ?_); rintro e w73 ⟨rfl, hb⟩; have n0_ := Aside0.mk (below_step (by repeat (first | (with_reducible first | exact HB.out | apply below_alloc | apply pw_below_drewN | apply below_drew1) | exact HB.out)) hb); clear HB; have HB := n0_; clear n0_; (try clear hb); (try clear hb2); (try clear hk); (try clear hi)) | (go_at_call 22; (with_reducible refine (fx_Ratio.calls (wrap64 (3 * x4_17)) (wrap64 (3 * ((rd_T24 l0 x3_1).f1))) t129 t130 _ A48.out).mono ?_); rintro e w74 ⟨rfl, hb⟩; have n0_ := Aside0.mk (below_step (by repeat (first | (with_reducible first | exact HB.out | apply below_alloc | apply pw_below_drewN | apply below_drew1) | exact HB.out)) hb); clear HB; have HB := n0_; clear n0_; (try clear hb); (try clear hb2); (try clear hk); (try clear hi)) | (go_at_call 22; (with_reducible refine (fx_Ratio.calls (wrap64 (-x4_17)) ((rd_T24 l0 x3_1).f1) t131 t132 _ A49.out).mono ?_); rintro e w75 ⟨rfl, hb⟩; have n0_ := Aside0.mk (below_step (by repeat (first | (with_reducible first | exact HB.out | apply below_alloc | apply pw_below_drewN | apply below_drew1) | exact HB.out)) hb); clear HB; have HB := n0_; clear n0_; (try clear hb); (try clear hb2); (try clear hk); (try clear hi)) | (go_at_call 19; (with_reducible refine (gimballaw1_num.calls t128 t133 _ A50.out).mono ?_); rintro e w' ⟨rfl, ⟨nd, rfl⟩⟩; (try first | exact ⟨rfl, _, World.drewN_drewN _ _ _⟩ | exact ⟨rfl, _, Eq.trans (World.drewN_drewN _ _ _) (congrArg (World.drewN _) (Nat.add_assoc _ _ _))⟩))))
                                      go_ret
                                      exact ⟨by first | rfl | (simp [errW_none, errW_some] <;> rfl) | (simp only [← hji7]; first | rfl | (simp [errW_none, errW_some] <;> rfl)) | (simp [*, errW_none, errW_some] <;> rfl), by repeat (first | (with_reducible first | exact HB.out | apply below_alloc | apply pw_below_drewN | apply below_drew1) | exact HB.out)⟩
                  · rw [if_neg c9] at H
                    exact absurd H (by simp)
                · rw [if_neg c8] at H
                  exact absurd H (by simp)
              · rw [if_neg c6] at H
                exact absurd H (by simp)
            · rw [if_neg c5] at H
              exact absurd H (by simp)
          · replace c4 := Bool.eq_false_iff.mpr c4
            subst c4
            have H1 : ((gimballaw1_wakes.f).bind fun t104 => (some t104)) = some r := by rw [if_neg (show ¬ (false = true) by decide)] at H; exact H
            clear H
            have H := H1
            clear H1
            replace H := Option.bind_eq_some_iff.mp H
            obtain ⟨t104, A760, H⟩ := H
            replace H : (some t104) = some r := H
            have A76 := Aside0.mk A760
            clear A760
            obtain rfl := Option.some.inj H
            go_wp2_with (first | (go_at_call 17; (with_reducible refine (gimballaw1_wakes.calls  t104 _ A76.out).mono ?_); rintro e w77 ⟨rfl, hb⟩; have n0_ := Aside0.mk (below_step (by repeat (first | (with_reducible first | exact HB.out | apply below_alloc | apply pw_below_drewN | apply below_drew1) | exact HB.out)) hb); clear HB; have HB := n0_; clear n0_; (try clear hb); (try clear hb2); (try clear hk); (try clear hi)))
            repeat (go_quiet (first | (go_at_call 17; (with_reducible refine (gimballaw1_wakes.calls  t104 _ A76.out).mono ?_); rintro e w77 ⟨rfl, hb⟩; have n0_ := Aside0.mk (below_step (by repeat (first | (with_reducible first | exact HB.out | apply below_alloc | apply pw_below_drewN | apply below_drew1) | exact HB.out)) hb); clear HB; have HB := n0_; clear n0_; (try clear hb); (try clear hb2); (try clear hk); (try clear hi))); try go_wp2_with (first | (go_at_call 17; (with_reducible refine (gimballaw1_wakes.calls  t104 _ A76.out).mono ?_); rintro e w77 ⟨rfl, hb⟩; have n0_ := Aside0.mk (below_step (by repeat (first | (with_reducible first | exact HB.out | apply below_alloc | apply pw_below_drewN | apply below_drew1) | exact HB.out)) hb); clear HB; have HB := n0_; clear n0_; (try clear hb); (try clear hb2); (try clear hk); (try clear hi))))
            go_ret
            exact ⟨by first | rfl | (simp [errW_none, errW_some] <;> rfl) | (simp [*, errW_none, errW_some] <;> rfl), by repeat (first | (with_reducible first | exact HB.out | apply below_alloc | apply pw_below_drewN | apply below_drew1) | exact HB.out)⟩

end Go.Proofs.Ythokdnheijnmmaa.QFxO
