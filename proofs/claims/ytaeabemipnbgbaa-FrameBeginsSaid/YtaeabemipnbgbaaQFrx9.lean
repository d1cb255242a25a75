-- Printed by wip/tools/myprint.py (this session's program over the kit's printer).
import Derived.Test.YtaeabemipnbgbaaQFrx0
import Derived.Test.YtaeabemipnbgbaaQFrx1
import Derived.Test.YtaeabemipnbgbaaQFrx3
import Derived.Test.YtaeabemipnbgbaaQFrx8
namespace Go.Proofs.Ytaeabemipnbgbaa.QFr
open Go.RowKit Go.Proofs.YtaeabemipnbgbaaW.PrintWords Go.Proofs.YtaeabemipnbgbaaW.PrintLast Go.Proofs.YtaeabemipnbgbaaW.PrintMore
attribute [local go_sem] max2_int min2_int max_two min_two max_three min_three max_four min_four   -- for this text's walks alone
set_option linter.unusedVariables false
set_option linter.unusedSimpArgs false

/-! ### gimballaw23_FrameBegins: function 7 -/
mutual
def gimballaw23_FrameBegins.l0 : Nat → List (S56) → Int → Option (Bool)
  | 0, _, _ => none
  | k + 1, x0, x3 => if x3 < (x0.length : Int) then (gimballaw23_FrameBegins.j1 k x0 x3 (decide (x3 < 15))) else (gimballaw23_FrameBegins.j1 k x0 x3 false)
def gimballaw23_FrameBegins.j1 : Nat → List (S56) → Int → Bool → Option (Bool)
  | 0, _, _, _ => none
  | k + 1, x0, x3, x18 => if x18 = true then (if 0 ≤ x3 then (if x3 < (x0.length : Int) then ((gimballaw23_heavy.f ((rd_T56 x0 x3).f0.f0) ((rd_T56 x0 x3).f0.f1) ((rd_T56 x0 x3).f0.f2) ((rd_T56 x0 x3).f1)).bind fun t353 => (if t353 = true then (some true) else ((frame_Begins.f k ([] : List Int)).bind fun t354 => (if t354 = true then ((frame_Begins.f k ((rd_T56 x0 x3).f1)).bind fun t355 => (gimballaw23_FrameBegins.l1 k x0 x3 t355 (wrap64 ((((rd_T56 x0 x3).f1).length : Int) - 1)) ((rd_T56 x0 x3).f0.f0) ((rd_T56 x0 x3).f0.f1) ((rd_T56 x0 x3).f0.f2) ((rd_T56 x0 x3).f1))) else (some false))))) else (none)) else (none)) else ((gimballaw23_wakes.f k).bind fun t350 => (some t350))
def gimballaw23_FrameBegins.l1 : Nat → List (S56) → Int → Bool → Int → Int → Int → List Int → List Int → Option (Bool)
  | 0, _, _, _, _, _, _, _, _ => none
  | k + 1, x0, x3, x5, x6, x353000, x353001, x353002, x353003 => if x6 ≥ 0 then (gimballaw23_FrameBegins.j3 k x0 x3 x5 x6 (decide (x6 > (wrap64 ((x353003.length : Int) - 40)))) x353000 x353001 x353002 x353003) else (gimballaw23_FrameBegins.j3 k x0 x3 x5 x6 false x353000 x353001 x353002 x353003)
def gimballaw23_FrameBegins.j3 : Nat → List (S56) → Int → Bool → Int → Bool → Int → Int → List Int → List Int → Option (Bool)
  | 0, _, _, _, _, _, _, _, _, _ => none
  | k + 1, x0, x3, x5, x6, x45, x353000, x353001, x353002, x353003 => if x45 = true then (if 0 ≤ x6 then (if x6 ≤ (x353003.length : Int) then ((frame_Begins.f k (x353003.take (x6 : Int).toNat)).bind fun t357 => (if x5 = true then (if t357 = true then (gimballaw23_FrameBegins.l1 k x0 x3 t357 (wrap64 (x6 - 1)) x353000 x353001 x353002 x353003) else (some false)) else (gimballaw23_FrameBegins.l1 k x0 x3 t357 (wrap64 (x6 - 1)) x353000 x353001 x353002 x353003))) else (none)) else (none)) else ((frame_Decode.f k x353003).bind fun bt358 => ((gimballaw23_num.f bt358.2.2.2.2).bind fun t366 => (if t366 = 0 then ((frame_Begins.f k x353003).bind fun t367 => (if t367 = true then (if bt358.2.2.2.1 < 7 then (some false) else (if bt358.2.2.2.1 > (x353003.length : Int) then (some false) else (gimballaw23_FrameBegins.l0 k x0 (wrap64 (x3 + 1))))) else (some false))) else (gimballaw23_FrameBegins.l0 k x0 (wrap64 (x3 + 1))))))
end
def gimballaw23_FrameBegins.f (k : Nat) (l0 : List (S56)) : Option (Bool) := gimballaw23_FrameBegins.l0 k l0 0
theorem gimballaw23_FrameBegins.mono_l : ∀ k, (∀ y0 y1, LeO (gimballaw23_FrameBegins.l0 k y0 y1) (gimballaw23_FrameBegins.l0 (k + 1) y0 y1)) ∧ (∀ y0 y1 y2, LeO (gimballaw23_FrameBegins.j1 k y0 y1 y2) (gimballaw23_FrameBegins.j1 (k + 1) y0 y1 y2)) ∧ (∀ y0 y1 y2 y3 y4 y5 y6 y7, LeO (gimballaw23_FrameBegins.l1 k y0 y1 y2 y3 y4 y5 y6 y7) (gimballaw23_FrameBegins.l1 (k + 1) y0 y1 y2 y3 y4 y5 y6 y7)) ∧ (∀ y0 y1 y2 y3 y4 y5 y6 y7 y8, LeO (gimballaw23_FrameBegins.j3 k y0 y1 y2 y3 y4 y5 y6 y7 y8) (gimballaw23_FrameBegins.j3 (k + 1) y0 y1 y2 y3 y4 y5 y6 y7 y8))
  | 0 => ⟨fun _ _ r h => by simp [gimballaw23_FrameBegins.l0] at h, fun _ _ _ r h => by simp [gimballaw23_FrameBegins.j1] at h, fun _ _ _ _ _ _ _ _ r h => by simp [gimballaw23_FrameBegins.l1] at h, fun _ _ _ _ _ _ _ _ _ r h => by simp [gimballaw23_FrameBegins.j3] at h⟩
  | k + 1 => by
    obtain ⟨ih0, ih1, ih2, ih3⟩ := gimballaw23_FrameBegins.mono_l k
    refine ⟨?_, ?_, ?_, ?_⟩
    · intro y0 y1
      unfold gimballaw23_FrameBegins.l0
      repeat' first
      | (with_reducible exact ih0 _ _)
      | (with_reducible exact ih1 _ _ _)
      | (with_reducible exact ih2 _ _ _ _ _ _ _ _)
      | (with_reducible exact ih3 _ _ _ _ _ _ _ _ _)
      | (with_reducible exact frame_Begins.mono _ _)
      | (with_reducible exact frame_Decode.mono _ _)
      | (with_reducible exact gimballaw23_wakes.mono _)
      | (with_reducible exact LeO.refl _)
      | (with_reducible exact LeO.none _)
      | (with_reducible refine LeO.ite ?_ ?_)
      | (with_reducible refine LeO.bind ?_ (fun _ => ?_))
      | exact ih0 _ _
      | exact ih1 _ _ _
      | exact ih2 _ _ _ _ _ _ _ _
      | exact ih3 _ _ _ _ _ _ _ _ _
      | exact frame_Begins.mono _ _
      | exact frame_Decode.mono _ _
      | exact gimballaw23_wakes.mono _
      | exact LeO.none _
      | refine LeO.ite ?_ ?_
      | refine LeO.bind ?_ (fun _ => ?_)
    · intro y0 y1 y2
      unfold gimballaw23_FrameBegins.j1
      repeat' first
      | (with_reducible exact ih0 _ _)
      | (with_reducible exact ih1 _ _ _)
      | (with_reducible exact ih2 _ _ _ _ _ _ _ _)
      | (with_reducible exact ih3 _ _ _ _ _ _ _ _ _)
      | (with_reducible exact frame_Begins.mono _ _)
      | (with_reducible exact frame_Decode.mono _ _)
      | (with_reducible exact gimballaw23_wakes.mono _)
      | (with_reducible exact LeO.refl _)
      | (with_reducible exact LeO.none _)
      | (with_reducible refine LeO.ite ?_ ?_)
      | (with_reducible refine LeO.bind ?_ (fun _ => ?_))
      | exact ih0 _ _
      | exact ih1 _ _ _
      | exact ih2 _ _ _ _ _ _ _ _
      | exact ih3 _ _ _ _ _ _ _ _ _
      | exact frame_Begins.mono _ _
      | exact frame_Decode.mono _ _
      | exact gimballaw23_wakes.mono _
      | exact LeO.none _
      | refine LeO.ite ?_ ?_
      | refine LeO.bind ?_ (fun _ => ?_)
    · intro y0 y1 y2 y3 y4 y5 y6 y7
      unfold gimballaw23_FrameBegins.l1
      repeat' first
      | (with_reducible exact ih0 _ _)
      | (with_reducible exact ih1 _ _ _)
      | (with_reducible exact ih2 _ _ _ _ _ _ _ _)
      | (with_reducible exact ih3 _ _ _ _ _ _ _ _ _)
      | (with_reducible exact frame_Begins.mono _ _)
      | (with_reducible exact frame_Decode.mono _ _)
      | (with_reducible exact gimballaw23_wakes.mono _)
      | (with_reducible exact LeO.refl _)
      | (with_reducible exact LeO.none _)
      | (with_reducible refine LeO.ite ?_ ?_)
      | (with_reducible refine LeO.bind ?_ (fun _ => ?_))
      | exact ih0 _ _
      | exact ih1 _ _ _
      | exact ih2 _ _ _ _ _ _ _ _
      | exact ih3 _ _ _ _ _ _ _ _ _
      | exact frame_Begins.mono _ _
      | exact frame_Decode.mono _ _
      | exact gimballaw23_wakes.mono _
      | exact LeO.none _
      | refine LeO.ite ?_ ?_
      | refine LeO.bind ?_ (fun _ => ?_)
    · intro y0 y1 y2 y3 y4 y5 y6 y7 y8
      unfold gimballaw23_FrameBegins.j3
      repeat' first
      | (with_reducible exact ih0 _ _)
      | (with_reducible exact ih1 _ _ _)
      | (with_reducible exact ih2 _ _ _ _ _ _ _ _)
      | (with_reducible exact ih3 _ _ _ _ _ _ _ _ _)
      | (with_reducible exact frame_Begins.mono _ _)
      | (with_reducible exact frame_Decode.mono _ _)
      | (with_reducible exact gimballaw23_wakes.mono _)
      | (with_reducible exact LeO.refl _)
      | (with_reducible exact LeO.none _)
      | (with_reducible refine LeO.ite ?_ ?_)
      | (with_reducible refine LeO.bind ?_ (fun _ => ?_))
      | exact ih0 _ _
      | exact ih1 _ _ _
      | exact ih2 _ _ _ _ _ _ _ _
      | exact ih3 _ _ _ _ _ _ _ _ _
      | exact frame_Begins.mono _ _
      | exact frame_Decode.mono _ _
      | exact gimballaw23_wakes.mono _
      | exact LeO.none _
      | refine LeO.ite ?_ ?_
      | refine LeO.bind ?_ (fun _ => ?_)
theorem gimballaw23_FrameBegins.mono : ∀ a0 k, LeO (gimballaw23_FrameBegins.f k a0) (gimballaw23_FrameBegins.f (k + 1) a0) := by
  intro a0 k
  obtain ⟨ih0, ih1, ih2, ih3⟩ := gimballaw23_FrameBegins.mono_l k
  unfold gimballaw23_FrameBegins.f
  repeat' first
      | (with_reducible exact ih0 _ _)
      | (with_reducible exact ih1 _ _ _)
      | (with_reducible exact ih2 _ _ _ _ _ _ _ _)
      | (with_reducible exact ih3 _ _ _ _ _ _ _ _ _)
      | (with_reducible exact frame_Begins.mono _ _)
      | (with_reducible exact frame_Decode.mono _ _)
      | (with_reducible exact gimballaw23_wakes.mono _)
      | (with_reducible exact LeO.refl _)
      | (with_reducible exact LeO.none _)
      | (with_reducible refine LeO.ite ?_ ?_)
      | (with_reducible refine LeO.bind ?_ (fun _ => ?_))
      | exact ih0 _ _
      | exact ih1 _ _ _
      | exact ih2 _ _ _ _ _ _ _ _
      | exact ih3 _ _ _ _ _ _ _ _ _
      | exact frame_Begins.mono _ _
      | exact frame_Decode.mono _ _
      | exact gimballaw23_wakes.mono _
      | exact LeO.none _
      | refine LeO.ite ?_ ?_
      | refine LeO.bind ?_ (fun _ => ?_)
set_option maxHeartbeats 8000000 in
set_option maxRecDepth 100000 in
theorem gimballaw23_FrameBegins.calls (k : Nat) (A0 : Option Addr) (c0 : Nat) (l0 : List (S56)) (r : Bool) (w : World) (hr0 : Kd.C k56 w A0 l0.length l0) (hc0 : l0.length ≤ c0) (h : gimballaw23_FrameBegins.f k l0 = some r) :
    Calls Try.prog 7 #[.slice A0 l0.length c0] w fun e w' => e = .returned (.bool r) ∧ Below w.heap.size w w' := by
  have hu56 := Try.underlying56
  have hu54 := Try.underlying54
  have HR0 := Aside0.mk hr0
  have HC0 := Aside0.mk hc0
  clear hr0 hc0
  have HB := Aside0.mk (Below.refl w.heap.size w)
  have H : (gimballaw23_FrameBegins.l0 k l0 0) = some r := h
  clear h
  have H' := Aside0.mk H
  clear H
  go_enter Try.func7, Try.ntmps7
  go_wp2
  go_loopg [3] k (fun kq v3 w' => ∃ (x3_1 : Int), v3 = .int .i64 x3_1 ∧ Aside0 (gimballaw23_FrameBegins.l0 kq l0 x3_1 = some r) ∧ Aside0 (kq ≤ k) ∧ Aside0 (Below w.heap.size w w'))
  case atStart => exact ⟨(0), (by first | rfl | (simp; done) | (simp [*]; done)), H', ⟨Nat.le_refl _⟩, ⟨by repeat (first | (with_reducible first | exact HB.out | apply below_alloc | apply pw_below_drewN | apply below_drew1) | exact HB.out)⟩⟩
  case round =>
    clear H'
    obtain ⟨x3_1, rfl, HA, HK1, HB⟩ := hrel
    cases gk with
    | zero => exact absurd HA.out (by simp [gimballaw23_FrameBegins.l0])
    | succ k1 =>
      have H := HA.out
      clear HA
      simp only [gimballaw23_FrameBegins.l0] at H
      have HC2 := Aside0.mk H
      clear H
      go_upto_region 2 with (fail)
      go_cut [18] (fun v18 wc => ∃ (kq : Nat) (x18_1 : Bool), v18 = .bool x18_1 ∧ Aside0 (gimballaw23_FrameBegins.j1 kq l0 x3_1 x18_1 = some r) ∧ Aside0 (kq ≤ k1) ∧ Aside0 (Below w.heap.size w wc))
      case first =>
        have H := HC2.out
        clear HC2
        by_cases c3 : x3_1 < (l0.length : Int)
        · rw [if_pos c3] at H
          have c3b0 : decide (x3_1 < (l0.length : Int)) = true := decide_eq_true c3
          clear c3
          (first | rw [c3b0] | (simp only [i64_w, i32_w]; rw [c3b0]) | skip)
          have H' := Aside0.mk H
          clear H
          go_wp2
          go_meet
          case rel => exact ⟨_, (decide (x3_1 < 15)), (by first | rfl | (simp; done) | (simp [*]; done)), H', ⟨by have := HK1.out; first | omega | exact Nat.le_refl _⟩, ⟨by repeat (first | (with_reducible first | exact HB.out | apply below_alloc | apply pw_below_drewN | apply below_drew1) | exact HB.out)⟩⟩
        · rw [if_neg c3] at H
          have c3b0 : decide (x3_1 < (l0.length : Int)) = false := decide_eq_false c3
          clear c3
          (first | rw [c3b0] | (simp only [i64_w, i32_w]; rw [c3b0]) | skip)
          have H' := Aside0.mk H
          clear H
          go_wp2
          go_meet
          case rel => exact ⟨_, (false), (by first | rfl | (simp; done) | (simp [*]; done)), H', ⟨by have := HK1.out; first | omega | exact Nat.le_refl _⟩, ⟨by repeat (first | (with_reducible first | exact HB.out | apply below_alloc | apply pw_below_drewN | apply below_drew1) | exact HB.out)⟩⟩
      case rest =>
        clear HC2
        try clear p2
        try clear c3
        try clear c3b0
        obtain ⟨kq, x18_1, rfl, HA, HJ1, HB⟩ := hcut
        cases kq with
        | zero => exact absurd HA.out (by simp [gimballaw23_FrameBegins.j1])
        | succ kj1 =>
          have H := HA.out
          clear HA
          simp only [gimballaw23_FrameBegins.j1] at H
          by_cases c4 : x18_1 = true
          · subst c4
            have H1 : (if 0 ≤ x3_1 then (if x3_1 < (l0.length : Int) then ((gimballaw23_heavy.f ((rd_T56 l0 x3_1).f0.f0) ((rd_T56 l0 x3_1).f0.f1) ((rd_T56 l0 x3_1).f0.f2) ((rd_T56 l0 x3_1).f1)).bind fun t353 => (if t353 = true then (some true) else ((frame_Begins.f kj1 ([] : List Int)).bind fun t354 => (if t354 = true then ((frame_Begins.f kj1 ((rd_T56 l0 x3_1).f1)).bind fun t355 => (gimballaw23_FrameBegins.l1 kj1 l0 x3_1 t355 (wrap64 ((((rd_T56 l0 x3_1).f1).length : Int) - 1)) ((rd_T56 l0 x3_1).f0.f0) ((rd_T56 l0 x3_1).f0.f1) ((rd_T56 l0 x3_1).f0.f2) ((rd_T56 l0 x3_1).f1))) else (some false))))) else (none)) else (none)) = some r := by rw [if_pos rfl] at H; exact H
            clear H
            have H := H1
            clear H1
            by_cases c5 : 0 ≤ x3_1
            · rw [if_pos c5] at H
              have c5b0 : decide (0 ≤ x3_1) = true := decide_eq_true c5
              clear c5
              by_cases c6 : x3_1 < (l0.length : Int)
              · rw [if_pos c6] at H
                have c6b0 : decide (x3_1 < (l0.length : Int)) = true := decide_eq_true c6
                clear c6
                replace H := Option.bind_eq_some_iff.mp H
                obtain ⟨t353, A70, H⟩ := H
                replace H : (if t353 = true then (some true) else ((frame_Begins.f kj1 ([] : List Int)).bind fun t354 => (if t354 = true then ((frame_Begins.f kj1 ((rd_T56 l0 x3_1).f1)).bind fun t355 => (gimballaw23_FrameBegins.l1 kj1 l0 x3_1 t355 (wrap64 ((((rd_T56 l0 x3_1).f1).length : Int) - 1)) ((rd_T56 l0 x3_1).f0.f0) ((rd_T56 l0 x3_1).f0.f1) ((rd_T56 l0 x3_1).f0.f2) ((rd_T56 l0 x3_1).f1))) else (some false)))) = some r := H
                have A7 := Aside0.mk A70
                clear A70
                by_cases c8 : t353 = true
                · subst c8
                  have H1 : (some true) = some r := by rw [if_pos rfl] at H; exact H
                  clear H
                  have H := H1
                  clear H1
                  obtain rfl := Option.some.inj H
                  have p351 : 0 ≤ (x3_1 : Int) := of_decide_eq_true (by first | (with_reducible assumption) | assumption)
                  have q351 : x3_1 < (l0.length : Int) := of_decide_eq_true (by first | (with_reducible assumption) | assumption)
                  obtain ⟨ad351, A351_2, c351_2, A351_3, c351_3, e351, hx351_0, hx351_1, hx351_2, hx351_3, hl351_2, hi351_2, hl351_3, hi351_3⟩ := at_T56 HR0.out x3_1 p351 q351
                  cases e351
                  replace hx351_0 := (HB.out.cell (World.block_lt_of_cell? w _ hx351_0)).trans hx351_0
                  replace hx351_1 := (HB.out.cell (World.block_lt_of_cell? w _ hx351_1)).trans hx351_1
                  replace hx351_2 := (HB.out.cell (World.block_lt_of_cell? w _ hx351_2)).trans hx351_2
                  replace hx351_3 := (HB.out.cell (World.block_lt_of_cell? w _ hx351_3)).trans hx351_3
                  have HR351_2 := Aside0.mk hi351_2
                  have HC351_2 := Aside0.mk hl351_2
                  clear hi351_2 hl351_2
                  have HR351_3 := Aside0.mk hi351_3
                  have HC351_3 := Aside0.mk hl351_3
                  clear hi351_3 hl351_3
                  replace p351 := eq_true p351
                  replace q351 := eq_true q351
                  go_wp2_with (first | ((with_reducible refine gate_dst (N := 4) rfl ?_); (try (refine gate_guard (by rfl) ?_; dsimp only)); refine box_event ?hg (N := 4) ?hd (cs := #[.int .i64 0, .int .i64 0, .slice none 0 0, .slice none 0 0]) (t := 56) ?hr ?_; (case hd => rfl); (case hg => rfl); (case hr => first | (go_simp; done) | (go_simp; rfl)); intro gb352 hg w9 hbox hb; have n0_ := Aside0.mk (below_step (by repeat (first | (with_reducible first | exact HB.out | apply below_alloc | apply pw_below_drewN | apply below_drew1) | exact HB.out)) hb); have n1_ := Aside0.mk (hbox); have n2_ := Aside0.mk ((by rw [hg]; exact (below_size (by repeat (first | (with_reducible first | exact HB.out | apply below_alloc | apply pw_below_drewN | apply below_drew1) | exact HB.out))) : w.heap.size ≤ gb352)); have n3_ := Aside0.mk ((by rw [hg]; exact (below_size (by repeat (first | (with_reducible first | exact HB.out | apply below_alloc | apply pw_below_drewN | apply below_drew1) | exact HB.out))) : w.heap.size ≤ gb352)); clear HB; have HB := n0_; have BK352 := n1_; have GW352 := n2_; have GE352 := n3_; clear n0_ n1_ n2_ n3_; clear hb hbox hg; have hcz10_0 : w9.cell? ⟨gb352, 0, none⟩ = some (.int .i64 0) := (blk_cell BK352.out 0).trans rfl; have hcz10_1 : w9.cell? ⟨gb352, 1, none⟩ = some (.int .i64 0) := (blk_cell BK352.out 1).trans rfl; have hcz10_2 : w9.cell? ⟨gb352, 2, none⟩ = some (.slice none 0 0) := (blk_cell BK352.out 2).trans rfl; have hcz10_3 : w9.cell? ⟨gb352, 3, none⟩ = some (.slice none 0 0) := (blk_cell BK352.out 3).trans rfl; have hfz10_0 := blk_frozen BK352.out 0; have hfz10_1 := blk_frozen BK352.out 1; have hfz10_2 := blk_frozen BK352.out 2; have hfz10_3 := blk_frozen BK352.out 3) | ((with_reducible refine gate_callee (f := 28) rfl ?_); refine goesL_ (some 26) rfl rfl Try.func28 (by kernel_rfl) rfl #[.agg #[.int .i64 ((rd_T56 l0 x3_1).f0.f0), .int .i64 ((rd_T56 l0 x3_1).f0.f1), .slice A351_2 ((rd_T56 l0 x3_1).f0.f2).length c351_2, .slice A351_3 ((rd_T56 l0 x3_1).f1).length c351_3]] rfl (by (try simp only [List.map_toArray, List.map_cons, List.map_nil]); first | done | rfl | (simp only [List.length_drop, List.length_take]; rfl)) ?_; (with_reducible refine (gimballaw23_heavy.calls ((rd_T56 l0 x3_1).f0.f0) ((rd_T56 l0 x3_1).f0.f1) _ _ ((rd_T56 l0 x3_1).f0.f2) _ _ ((rd_T56 l0 x3_1).f1) true _ ?side1 ?side2 ?side3 ?side4 A7.out).mono ?_); (case side1 => exact Kd.C_below HR351_2.out (by repeat (first | (with_reducible first | exact HB.out | apply below_alloc | apply pw_below_drewN | apply below_drew1 | refine below_set ?_ GE352.out) | exact HB.out))); (case side2 => exact HC351_2.out); (case side3 => exact Kd.C_below HR351_3.out (by repeat (first | (with_reducible first | exact HB.out | apply below_alloc | apply pw_below_drewN | apply below_drew1 | refine below_set ?_ GE352.out) | exact HB.out))); (case side4 => exact HC351_3.out); rintro e w11 ⟨rfl, hb⟩; refine ⟨_, rfl, ?_⟩; have n0_ := Aside0.mk (blk_below (g := gb352) (o := .cells #[.int .i64 ((rd_T56 l0 x3_1).f0.f0), .int .i64 ((rd_T56 l0 x3_1).f0.f1), .slice A351_2 ((rd_T56 l0 x3_1).f0.f2).length c351_2, .slice A351_3 ((rd_T56 l0 x3_1).f1).length c351_3] 56 (0, 0)) (by (with_reducible repeat (first | refine blk_drewN ?_ _ | refine blk_drew ?_ | refine blk_alloc ?_ _)); refine blk_put (cs := #[.int .i64 ((rd_T56 l0 x3_1).f0.f0), .int .i64 ((rd_T56 l0 x3_1).f0.f1), .slice A351_2 ((rd_T56 l0 x3_1).f0.f2).length c351_2, .slice none 0 0]) ?_ 3 _ rfl; (with_reducible repeat (first | refine blk_drewN ?_ _ | refine blk_drew ?_ | refine blk_alloc ?_ _)); refine blk_put (cs := #[.int .i64 ((rd_T56 l0 x3_1).f0.f0), .int .i64 ((rd_T56 l0 x3_1).f0.f1), .slice none 0 0, .slice none 0 0]) ?_ 2 _ rfl; (with_reducible repeat (first | refine blk_drewN ?_ _ | refine blk_drew ?_ | refine blk_alloc ?_ _)); refine blk_put (cs := #[.int .i64 ((rd_T56 l0 x3_1).f0.f0), .int .i64 0, .slice none 0 0, .slice none 0 0]) ?_ 1 _ rfl; (with_reducible repeat (first | refine blk_drewN ?_ _ | refine blk_drew ?_ | refine blk_alloc ?_ _)); refine blk_put (cs := #[.int .i64 0, .int .i64 0, .slice none 0 0, .slice none 0 0]) ?_ 0 _ rfl; (with_reducible repeat (first | refine blk_drewN ?_ _ | refine blk_drew ?_ | refine blk_alloc ?_ _)); exact BK352.out) hb); have n1_ := Aside0.mk (below_step (by repeat (first | (with_reducible first | exact HB.out | apply below_alloc | apply pw_below_drewN | apply below_drew1 | refine below_set ?_ GE352.out) | exact HB.out)) hb); clear BK352; clear HB; have BK352 := n0_; have HB := n1_; clear n0_ n1_; (try clear hb); (try clear hb2); (try clear hk); (try clear hi)))
                  go_ret
                  exact ⟨by first | rfl | (simp [errW_none, errW_some] <;> rfl) | (simp [*, errW_none, errW_some] <;> rfl), by repeat (first | (with_reducible first | exact HB.out | apply below_alloc | apply pw_below_drewN | apply below_drew1 | refine below_set ?_ GE352.out) | exact HB.out)⟩
                · replace c8 := Bool.eq_false_iff.mpr c8
                  subst c8
                  have H1 : ((frame_Begins.f kj1 ([] : List Int)).bind fun t354 => (if t354 = true then ((frame_Begins.f kj1 ((rd_T56 l0 x3_1).f1)).bind fun t355 => (gimballaw23_FrameBegins.l1 kj1 l0 x3_1 t355 (wrap64 ((((rd_T56 l0 x3_1).f1).length : Int) - 1)) ((rd_T56 l0 x3_1).f0.f0) ((rd_T56 l0 x3_1).f0.f1) ((rd_T56 l0 x3_1).f0.f2) ((rd_T56 l0 x3_1).f1))) else (some false))) = some r := by rw [if_neg (show ¬ (false = true) by decide)] at H; exact H
                  clear H
                  have H := H1
                  clear H1
                  replace H := Option.bind_eq_some_iff.mp H
                  obtain ⟨t354, A120, H⟩ := H
                  replace H : (if t354 = true then ((frame_Begins.f kj1 ((rd_T56 l0 x3_1).f1)).bind fun t355 => (gimballaw23_FrameBegins.l1 kj1 l0 x3_1 t355 (wrap64 ((((rd_T56 l0 x3_1).f1).length : Int) - 1)) ((rd_T56 l0 x3_1).f0.f0) ((rd_T56 l0 x3_1).f0.f1) ((rd_T56 l0 x3_1).f0.f2) ((rd_T56 l0 x3_1).f1))) else (some false)) = some r := H
                  have A12 := Aside0.mk A120
                  clear A120
                  by_cases c13 : t354 = true
                  · subst c13
                    have H1 : ((frame_Begins.f kj1 ((rd_T56 l0 x3_1).f1)).bind fun t355 => (gimballaw23_FrameBegins.l1 kj1 l0 x3_1 t355 (wrap64 ((((rd_T56 l0 x3_1).f1).length : Int) - 1)) ((rd_T56 l0 x3_1).f0.f0) ((rd_T56 l0 x3_1).f0.f1) ((rd_T56 l0 x3_1).f0.f2) ((rd_T56 l0 x3_1).f1))) = some r := by rw [if_pos rfl] at H; exact H
                    clear H
                    have H := H1
                    clear H1
                    replace H := Option.bind_eq_some_iff.mp H
                    obtain ⟨t355, A140, H⟩ := H
                    replace H : (gimballaw23_FrameBegins.l1 kj1 l0 x3_1 t355 (wrap64 ((((rd_T56 l0 x3_1).f1).length : Int) - 1)) ((rd_T56 l0 x3_1).f0.f0) ((rd_T56 l0 x3_1).f0.f1) ((rd_T56 l0 x3_1).f0.f2) ((rd_T56 l0 x3_1).f1)) = some r := H
                    have A14 := Aside0.mk A140
                    clear A140
                    have H' := Aside0.mk H
                    clear H
                    have p351 : 0 ≤ (x3_1 : Int) := of_decide_eq_true (by first | (with_reducible assumption) | assumption)
                    have q351 : x3_1 < (l0.length : Int) := of_decide_eq_true (by first | (with_reducible assumption) | assumption)
                    obtain ⟨ad351, A351_2, c351_2, A351_3, c351_3, e351, hx351_0, hx351_1, hx351_2, hx351_3, hl351_2, hi351_2, hl351_3, hi351_3⟩ := at_T56 HR0.out x3_1 p351 q351
                    cases e351
                    replace hx351_0 := (HB.out.cell (World.block_lt_of_cell? w _ hx351_0)).trans hx351_0
                    replace hx351_1 := (HB.out.cell (World.block_lt_of_cell? w _ hx351_1)).trans hx351_1
                    replace hx351_2 := (HB.out.cell (World.block_lt_of_cell? w _ hx351_2)).trans hx351_2
                    replace hx351_3 := (HB.out.cell (World.block_lt_of_cell? w _ hx351_3)).trans hx351_3
                    have HR351_2 := Aside0.mk hi351_2
                    have HC351_2 := Aside0.mk hl351_2
                    clear hi351_2 hl351_2
                    have HR351_3 := Aside0.mk hi351_3
                    have HC351_3 := Aside0.mk hl351_3
                    clear hi351_3 hl351_3
                    replace p351 := eq_true p351
                    replace q351 := eq_true q351
                    go_wp2_with (first | ((with_reducible refine gate_dst (N := 4) rfl ?_); (try (refine gate_guard (by rfl) ?_; dsimp only)); refine box_event ?hg (N := 4) ?hd (cs := #[.int .i64 0, .int .i64 0, .slice none 0 0, .slice none 0 0]) (t := 56) ?hr ?_; (case hd => rfl); (case hg => rfl); (case hr => first | (go_simp; done) | (go_simp; rfl)); intro gb352 hg w15 hbox hb; have n0_ := Aside0.mk (below_step (by repeat (first | (with_reducible first | exact HB.out | apply below_alloc | apply pw_below_drewN | apply below_drew1) | exact HB.out)) hb); have n1_ := Aside0.mk (hbox); have n2_ := Aside0.mk ((by rw [hg]; exact (below_size (by repeat (first | (with_reducible first | exact HB.out | apply below_alloc | apply pw_below_drewN | apply below_drew1) | exact HB.out))) : w.heap.size ≤ gb352)); have n3_ := Aside0.mk ((by rw [hg]; exact (below_size (by repeat (first | (with_reducible first | exact HB.out | apply below_alloc | apply pw_below_drewN | apply below_drew1) | exact HB.out))) : w.heap.size ≤ gb352)); clear HB; have HB := n0_; have BK352 := n1_; have GW352 := n2_; have GE352 := n3_; clear n0_ n1_ n2_ n3_; clear hb hbox hg; have hcz16_0 : w15.cell? ⟨gb352, 0, none⟩ = some (.int .i64 0) := (blk_cell BK352.out 0).trans rfl; have hcz16_1 : w15.cell? ⟨gb352, 1, none⟩ = some (.int .i64 0) := (blk_cell BK352.out 1).trans rfl; have hcz16_2 : w15.cell? ⟨gb352, 2, none⟩ = some (.slice none 0 0) := (blk_cell BK352.out 2).trans rfl; have hcz16_3 : w15.cell? ⟨gb352, 3, none⟩ = some (.slice none 0 0) := (blk_cell BK352.out 3).trans rfl; have hfz16_0 := blk_frozen BK352.out 0; have hfz16_1 := blk_frozen BK352.out 1; have hfz16_2 := blk_frozen BK352.out 2; have hfz16_3 := blk_frozen BK352.out 3) | ((with_reducible refine gate_callee (f := 28) rfl ?_); refine goesL_ (some 26) rfl rfl Try.func28 (by kernel_rfl) rfl #[.agg #[.int .i64 ((rd_T56 l0 x3_1).f0.f0), .int .i64 ((rd_T56 l0 x3_1).f0.f1), .slice A351_2 ((rd_T56 l0 x3_1).f0.f2).length c351_2, .slice A351_3 ((rd_T56 l0 x3_1).f1).length c351_3]] rfl (by (try simp only [List.map_toArray, List.map_cons, List.map_nil]); first | done | rfl | (simp only [List.length_drop, List.length_take]; rfl)) ?_; (with_reducible refine (gimballaw23_heavy.calls ((rd_T56 l0 x3_1).f0.f0) ((rd_T56 l0 x3_1).f0.f1) _ _ ((rd_T56 l0 x3_1).f0.f2) _ _ ((rd_T56 l0 x3_1).f1) false _ ?side1 ?side2 ?side3 ?side4 A7.out).mono ?_); (case side1 => exact Kd.C_below HR351_2.out (by repeat (first | (with_reducible first | exact HB.out | apply below_alloc | apply pw_below_drewN | apply below_drew1 | refine below_set ?_ GE352.out) | exact HB.out))); (case side2 => exact HC351_2.out); (case side3 => exact Kd.C_below HR351_3.out (by repeat (first | (with_reducible first | exact HB.out | apply below_alloc | apply pw_below_drewN | apply below_drew1 | refine below_set ?_ GE352.out) | exact HB.out))); (case side4 => exact HC351_3.out); rintro e w17 ⟨rfl, hb⟩; refine ⟨_, rfl, ?_⟩; have n0_ := Aside0.mk (blk_below (g := gb352) (o := .cells #[.int .i64 ((rd_T56 l0 x3_1).f0.f0), .int .i64 ((rd_T56 l0 x3_1).f0.f1), .slice A351_2 ((rd_T56 l0 x3_1).f0.f2).length c351_2, .slice A351_3 ((rd_T56 l0 x3_1).f1).length c351_3] 56 (0, 0)) (by (with_reducible repeat (first | refine blk_drewN ?_ _ | refine blk_drew ?_ | refine blk_alloc ?_ _)); refine blk_put (cs := #[.int .i64 ((rd_T56 l0 x3_1).f0.f0), .int .i64 ((rd_T56 l0 x3_1).f0.f1), .slice A351_2 ((rd_T56 l0 x3_1).f0.f2).length c351_2, .slice none 0 0]) ?_ 3 _ rfl; (with_reducible repeat (first | refine blk_drewN ?_ _ | refine blk_drew ?_ | refine blk_alloc ?_ _)); refine blk_put (cs := #[.int .i64 ((rd_T56 l0 x3_1).f0.f0), .int .i64 ((rd_T56 l0 x3_1).f0.f1), .slice none 0 0, .slice none 0 0]) ?_ 2 _ rfl; (with_reducible repeat (first | refine blk_drewN ?_ _ | refine blk_drew ?_ | refine blk_alloc ?_ _)); refine blk_put (cs := #[.int .i64 ((rd_T56 l0 x3_1).f0.f0), .int .i64 0, .slice none 0 0, .slice none 0 0]) ?_ 1 _ rfl; (with_reducible repeat (first | refine blk_drewN ?_ _ | refine blk_drew ?_ | refine blk_alloc ?_ _)); refine blk_put (cs := #[.int .i64 0, .int .i64 0, .slice none 0 0, .slice none 0 0]) ?_ 0 _ rfl; (with_reducible repeat (first | refine blk_drewN ?_ _ | refine blk_drew ?_ | refine blk_alloc ?_ _)); exact BK352.out) hb); have n1_ := Aside0.mk (below_step (by repeat (first | (with_reducible first | exact HB.out | apply below_alloc | apply pw_below_drewN | apply below_drew1 | refine below_set ?_ GE352.out) | exact HB.out)) hb); clear BK352; clear HB; have BK352 := n0_; have HB := n1_; clear n0_ n1_; (try clear hb); (try clear hb2); (try clear hk); (try clear hi)) | ((with_reducible refine gate_callee (f := 37) rfl ?_); refine goesL_ (some 27) rfl rfl Try.func37 (by kernel_rfl) rfl #[.slice none 0 0] rfl (by (try simp only [List.map_toArray, List.map_cons, List.map_nil]); first | done | rfl | (simp only [List.length_drop, List.length_take]; rfl)) ?_; (refine (frame_Begins.calls kj1 _ _ ([] : List Int) true _ ?side1 ?side2 A12.out).mono ?_); (case side1 => exact Kd.C_nil _ _); (case side2 => exact Nat.le_refl _); rintro e w18 ⟨rfl, hb⟩; refine ⟨_, rfl, ?_⟩; have n0_ := Aside0.mk (blk_below (g := gb352) (o := .cells #[.int .i64 ((rd_T56 l0 x3_1).f0.f0), .int .i64 ((rd_T56 l0 x3_1).f0.f1), .slice A351_2 ((rd_T56 l0 x3_1).f0.f2).length c351_2, .slice A351_3 ((rd_T56 l0 x3_1).f1).length c351_3] 56 (0, 0)) (by (with_reducible repeat (first | refine blk_drewN ?_ _ | refine blk_drew ?_ | refine blk_alloc ?_ _)); exact BK352.out) hb); have n1_ := Aside0.mk (below_step (by repeat (first | (with_reducible first | exact HB.out | apply below_alloc | apply pw_below_drewN | apply below_drew1 | refine below_set ?_ GE352.out) | exact HB.out)) hb); clear BK352; clear HB; have BK352 := n0_; have HB := n1_; clear n0_ n1_; (try clear hb); (try clear hb2); (try clear hk); (try clear hi); have hcz19_0 : w18.cell? ⟨gb352, 0, none⟩ = some (.int .i64 ((rd_T56 l0 x3_1).f0.f0)) := (blk_cell BK352.out 0).trans rfl; have hcz19_1 : w18.cell? ⟨gb352, 1, none⟩ = some (.int .i64 ((rd_T56 l0 x3_1).f0.f1)) := (blk_cell BK352.out 1).trans rfl; have hcz19_2 : w18.cell? ⟨gb352, 2, none⟩ = some (.slice A351_2 ((rd_T56 l0 x3_1).f0.f2).length c351_2) := (blk_cell BK352.out 2).trans rfl; have hcz19_3 : w18.cell? ⟨gb352, 3, none⟩ = some (.slice A351_3 ((rd_T56 l0 x3_1).f1).length c351_3) := (blk_cell BK352.out 3).trans rfl; have hfz19_0 := blk_frozen BK352.out 0; have hfz19_1 := blk_frozen BK352.out 1; have hfz19_2 := blk_frozen BK352.out 2; have hfz19_3 := blk_frozen BK352.out 3) | ((with_reducible refine gate_callee (f := 37) rfl ?_); refine goesL_ (some 31) rfl rfl Try.func37 (by kernel_rfl) rfl #[.slice A351_3 ((rd_T56 l0 x3_1).f1).length c351_3] rfl (by (try simp only [List.map_toArray, List.map_cons, List.map_nil]); first | done | rfl | (simp only [List.length_drop, List.length_take]; rfl)) ?_; (with_reducible refine (frame_Begins.calls kj1 _ _ ((rd_T56 l0 x3_1).f1) t355 _ ?side1 ?side2 A14.out).mono ?_); (case side1 => repeat (first | exact (Kd.C_below HR351_3.out HB.out) | (with_reducible refine Kd.C_alloc ?_ _) | (with_reducible refine Kd.C_drewN ?_ _) | (with_reducible refine Kd.C_drew ?_))); (case side2 => exact HC351_3.out); rintro e w20 ⟨rfl, hb⟩; refine ⟨_, rfl, ?_⟩; have n0_ := Aside0.mk (blk_below (g := gb352) (o := .cells #[.int .i64 ((rd_T56 l0 x3_1).f0.f0), .int .i64 ((rd_T56 l0 x3_1).f0.f1), .slice A351_2 ((rd_T56 l0 x3_1).f0.f2).length c351_2, .slice A351_3 ((rd_T56 l0 x3_1).f1).length c351_3] 56 (0, 0)) (by (with_reducible repeat (first | refine blk_drewN ?_ _ | refine blk_drew ?_ | refine blk_alloc ?_ _)); exact BK352.out) hb); have n1_ := Aside0.mk (below_step (by repeat (first | (with_reducible first | exact HB.out | apply below_alloc | apply pw_below_drewN | apply below_drew1 | refine below_set ?_ GE352.out) | exact HB.out)) hb); clear BK352; clear HB; have BK352 := n0_; have HB := n1_; clear n0_ n1_; (try clear hb); (try clear hb2); (try clear hk); (try clear hi); have hcz21_0 : w20.cell? ⟨gb352, 0, none⟩ = some (.int .i64 ((rd_T56 l0 x3_1).f0.f0)) := (blk_cell BK352.out 0).trans rfl; have hcz21_1 : w20.cell? ⟨gb352, 1, none⟩ = some (.int .i64 ((rd_T56 l0 x3_1).f0.f1)) := (blk_cell BK352.out 1).trans rfl; have hcz21_2 : w20.cell? ⟨gb352, 2, none⟩ = some (.slice A351_2 ((rd_T56 l0 x3_1).f0.f2).length c351_2) := (blk_cell BK352.out 2).trans rfl; have hcz21_3 : w20.cell? ⟨gb352, 3, none⟩ = some (.slice A351_3 ((rd_T56 l0 x3_1).f1).length c351_3) := (blk_cell BK352.out 3).trans rfl; have hfz21_0 := blk_frozen BK352.out 0; have hfz21_1 := blk_frozen BK352.out 1; have hfz21_2 := blk_frozen BK352.out 2; have hfz21_3 := blk_frozen BK352.out 3))
                    go_loopg [5, 6] kj1 (fun kq v5 v6 w' => ∃ (x5_3 : Bool) (x6_3 : Int), v5 = .bool x5_3 ∧ v6 = .int .i64 x6_3 ∧ Aside0 (gimballaw23_FrameBegins.l1 kq l0 x3_1 x5_3 x6_3 ((rd_T56 l0 x3_1).f0.f0) ((rd_T56 l0 x3_1).f0.f1) ((rd_T56 l0 x3_1).f0.f2) ((rd_T56 l0 x3_1).f1) = some r) ∧ Aside0 (kq ≤ kj1) ∧ Aside0 (w'.heap[gb352]? = some (.cells #[.int .i64 ((rd_T56 l0 x3_1).f0.f0), .int .i64 ((rd_T56 l0 x3_1).f0.f1), (.slice A351_2 ((rd_T56 l0 x3_1).f0.f2).length c351_2), (.slice A351_3 ((rd_T56 l0 x3_1).f1).length c351_3)] 56 (0, 0))) ∧ Aside0 (Below w.heap.size w w'))
                    case atStart => exact ⟨(t355), (wrap64 ((((rd_T56 l0 x3_1).f1).length : Int) - 1)), (by first | rfl | (simp; done) | (simp [*]; done)), (by first | rfl | (simp; done) | (simp [*]; done)), H', ⟨Nat.le_refl _⟩, ⟨by (with_reducible repeat (first | refine blk_drewN ?_ _ | refine blk_drew ?_ | refine blk_alloc ?_ _)); exact BK352.out⟩, ⟨by repeat (first | (with_reducible first | exact HB.out | apply below_alloc | apply pw_below_drewN | apply below_drew1 | refine below_set ?_ GE352.out) | exact HB.out)⟩⟩
                    case round =>
                      clear H'
                      try clear c1
                      try clear c2
                      try clear p2
                      try clear c3
                      try clear c3b0
                      try clear p3
                      try clear q3
                      try clear hx3
                      try clear c4
                      try clear c5
                      try clear c5b0
                      try clear c6
                      try clear c6b0
                      try clear p6
                      try clear c7
                      try clear c8
                      try clear c13
                      try clear hcz10_0
                      try clear hcz10_1
                      try clear hcz10_2
                      try clear hcz10_3
                      try clear hcz16_0
                      try clear hcz16_1
                      try clear hcz16_2
                      try clear hcz16_3
                      try clear hcz19_0
                      try clear hcz19_1
                      try clear hcz19_2
                      try clear hcz19_3
                      try clear hcz21_0
                      try clear hcz21_1
                      try clear hcz21_2
                      try clear hcz21_3
                      try clear hfz10_0
                      try clear hfz10_1
                      try clear hfz10_2
                      try clear hfz10_3
                      try clear hfz16_0
                      try clear hfz16_1
                      try clear hfz16_2
                      try clear hfz16_3
                      try clear hfz19_0
                      try clear hfz19_1
                      try clear hfz19_2
                      try clear hfz19_3
                      try clear hfz21_0
                      try clear hfz21_1
                      try clear hfz21_2
                      try clear hfz21_3
                      try clear hx351_0
                      try clear hx351_1
                      try clear hx351_2
                      try clear hx351_3
                      try clear p2
                      try clear p351
                      try clear q351
                      obtain ⟨x5_3, x6_3, rfl, rfl, HA, HK3, BK352, HB⟩ := hrel
                      cases gk with
                      | zero => exact absurd HA.out (by simp [gimballaw23_FrameBegins.l1])
                      | succ k3 =>
                        have H := HA.out
                        clear HA
                        simp only [gimballaw23_FrameBegins.l1] at H
                        have HC22 := Aside0.mk H
                        clear H
                        go_upto_region 11 with (fail)
                        go_cut [45] (fun v45 wc => ∃ (kq : Nat) (x45_21 : Bool), v45 = .bool x45_21 ∧ Aside0 (gimballaw23_FrameBegins.j3 kq l0 x3_1 x5_3 x6_3 x45_21 ((rd_T56 l0 x3_1).f0.f0) ((rd_T56 l0 x3_1).f0.f1) ((rd_T56 l0 x3_1).f0.f2) ((rd_T56 l0 x3_1).f1) = some r) ∧ Aside0 (kq ≤ k3) ∧ Aside0 (wc.heap[gb352]? = some (.cells #[.int .i64 ((rd_T56 l0 x3_1).f0.f0), .int .i64 ((rd_T56 l0 x3_1).f0.f1), (.slice A351_2 ((rd_T56 l0 x3_1).f0.f2).length c351_2), (.slice A351_3 ((rd_T56 l0 x3_1).f1).length c351_3)] 56 (0, 0))) ∧ Aside0 (Below w.heap.size w wc))
                        case first =>
                          have H := HC22.out
                          clear HC22
                          by_cases c23 : x6_3 ≥ 0
                          · rw [if_pos c23] at H
                            have c23b0 : decide (0 ≤ x6_3) = true := decide_eq_true c23
                            clear c23
                            (first | rw [c23b0] | (simp only [i64_w, i32_w]; rw [c23b0]) | skip)
                            have H' := Aside0.mk H
                            clear H
                            have hcz24_0 : wr.cell? ⟨gb352, 0, none⟩ = some (.int .i64 ((rd_T56 l0 x3_1).f0.f0)) := (blk_cell BK352.out 0).trans rfl
                            have hcz24_1 : wr.cell? ⟨gb352, 1, none⟩ = some (.int .i64 ((rd_T56 l0 x3_1).f0.f1)) := (blk_cell BK352.out 1).trans rfl
                            have hcz24_2 : wr.cell? ⟨gb352, 2, none⟩ = some (.slice A351_2 ((rd_T56 l0 x3_1).f0.f2).length c351_2) := (blk_cell BK352.out 2).trans rfl
                            have hcz24_3 : wr.cell? ⟨gb352, 3, none⟩ = some (.slice A351_3 ((rd_T56 l0 x3_1).f1).length c351_3) := (blk_cell BK352.out 3).trans rfl
                            have hfz24_0 := blk_frozen BK352.out 0
                            have hfz24_1 := blk_frozen BK352.out 1
                            have hfz24_2 := blk_frozen BK352.out 2
                            have hfz24_3 := blk_frozen BK352.out 3
                            go_wp2
                            go_meet
                            case rel => exact ⟨_, (decide (x6_3 > (wrap64 ((((rd_T56 l0 x3_1).f1).length : Int) - 40)))), (by first | rfl | (simp; done) | (simp [*]; done)), H', ⟨by have := HK1.out; have := HJ1.out; have := HK3.out; first | omega | exact Nat.le_refl _⟩, ⟨by (with_reducible repeat (first | refine blk_drewN ?_ _ | refine blk_drew ?_ | refine blk_alloc ?_ _)); exact BK352.out⟩, ⟨by repeat (first | (with_reducible first | exact HB.out | apply below_alloc | apply pw_below_drewN | apply below_drew1 | refine below_set ?_ GE352.out) | exact HB.out)⟩⟩
                          · rw [if_neg c23] at H
                            have c23b0 : decide (0 ≤ x6_3) = false := decide_eq_false c23
                            clear c23
                            (first | rw [c23b0] | (simp only [i64_w, i32_w]; rw [c23b0]) | skip)
                            have H' := Aside0.mk H
                            clear H
                            go_wp2
                            go_meet
                            case rel => exact ⟨_, (false), (by first | rfl | (simp; done) | (simp [*]; done)), H', ⟨by have := HK1.out; have := HJ1.out; have := HK3.out; first | omega | exact Nat.le_refl _⟩, ⟨by (with_reducible repeat (first | refine blk_drewN ?_ _ | refine blk_drew ?_ | refine blk_alloc ?_ _)); exact BK352.out⟩, ⟨by repeat (first | (with_reducible first | exact HB.out | apply below_alloc | apply pw_below_drewN | apply below_drew1 | refine below_set ?_ GE352.out) | exact HB.out)⟩⟩
                        case rest =>
                          clear HC22
                          try clear c1
                          try clear c2
                          try clear p2
                          try clear c3
                          try clear c3b0
                          try clear p3
                          try clear q3
                          try clear hx3
                          try clear c4
                          try clear c5
                          try clear c5b0
                          try clear c6
                          try clear c6b0
                          try clear p6
                          try clear c7
                          try clear c8
                          try clear c13
                          try clear c23
                          try clear c23b0
                          try clear hcz10_0
                          try clear hcz10_1
                          try clear hcz10_2
                          try clear hcz10_3
                          try clear hcz16_0
                          try clear hcz16_1
                          try clear hcz16_2
                          try clear hcz16_3
                          try clear hcz19_0
                          try clear hcz19_1
                          try clear hcz19_2
                          try clear hcz19_3
                          try clear hcz21_0
                          try clear hcz21_1
                          try clear hcz21_2
                          try clear hcz21_3
                          try clear hcz24_0
                          try clear hcz24_1
                          try clear hcz24_2
                          try clear hcz24_3
                          try clear hfz10_0
                          try clear hfz10_1
                          try clear hfz10_2
                          try clear hfz10_3
                          try clear hfz16_0
                          try clear hfz16_1
                          try clear hfz16_2
                          try clear hfz16_3
                          try clear hfz19_0
                          try clear hfz19_1
                          try clear hfz19_2
                          try clear hfz19_3
                          try clear hfz21_0
                          try clear hfz21_1
                          try clear hfz21_2
                          try clear hfz21_3
                          try clear hfz24_0
                          try clear hfz24_1
                          try clear hfz24_2
                          try clear hfz24_3
                          try clear hx351_0
                          try clear hx351_1
                          try clear hx351_2
                          try clear hx351_3
                          try clear p2
                          try clear p3
                          try clear p351
                          try clear p6
                          try clear q3
                          try clear q351
                          obtain ⟨kq, x45_21, rfl, HA, HJ21, BK352, HB⟩ := hcut
                          cases kq with
                          | zero => exact absurd HA.out (by simp [gimballaw23_FrameBegins.j3])
                          | succ kj21 =>
                            have H := HA.out
                            clear HA
                            simp only [gimballaw23_FrameBegins.j3] at H
                            by_cases c25 : x45_21 = true
                            · subst c25
                              have H1 : (if 0 ≤ x6_3 then (if x6_3 ≤ (((rd_T56 l0 x3_1).f1).length : Int) then ((frame_Begins.f kj21 (((rd_T56 l0 x3_1).f1).take (x6_3 : Int).toNat)).bind fun t357 => (if x5_3 = true then (if t357 = true then (gimballaw23_FrameBegins.l1 kj21 l0 x3_1 t357 (wrap64 (x6_3 - 1)) ((rd_T56 l0 x3_1).f0.f0) ((rd_T56 l0 x3_1).f0.f1) ((rd_T56 l0 x3_1).f0.f2) ((rd_T56 l0 x3_1).f1)) else (some false)) else (gimballaw23_FrameBegins.l1 kj21 l0 x3_1 t357 (wrap64 (x6_3 - 1)) ((rd_T56 l0 x3_1).f0.f0) ((rd_T56 l0 x3_1).f0.f1) ((rd_T56 l0 x3_1).f0.f2) ((rd_T56 l0 x3_1).f1)))) else (none)) else (none)) = some r := by rw [if_pos rfl] at H; exact H
                              clear H
                              have H := H1
                              clear H1
                              by_cases c26 : 0 ≤ x6_3
                              · rw [if_pos c26] at H
                                have c26b0 := eq_true c26
                                have c26b1 : decide (0 ≤ x6_3) = true := decide_eq_true c26
                                clear c26
                                by_cases c27 : x6_3 ≤ (((rd_T56 l0 x3_1).f1).length : Int)
                                · rw [if_pos c27] at H
                                  have c27b0 := eq_true c27
                                  have c27b1 : decide (x6_3 ≤ (((rd_T56 l0 x3_1).f1).length : Int)) = true := decide_eq_true c27
                                  clear c27
                                  replace H := Option.bind_eq_some_iff.mp H
                                  obtain ⟨t357, A280, H⟩ := H
                                  replace H : (if x5_3 = true then (if t357 = true then (gimballaw23_FrameBegins.l1 kj21 l0 x3_1 t357 (wrap64 (x6_3 - 1)) ((rd_T56 l0 x3_1).f0.f0) ((rd_T56 l0 x3_1).f0.f1) ((rd_T56 l0 x3_1).f0.f2) ((rd_T56 l0 x3_1).f1)) else (some false)) else (gimballaw23_FrameBegins.l1 kj21 l0 x3_1 t357 (wrap64 (x6_3 - 1)) ((rd_T56 l0 x3_1).f0.f0) ((rd_T56 l0 x3_1).f0.f1) ((rd_T56 l0 x3_1).f0.f2) ((rd_T56 l0 x3_1).f1))) = some r := H
                                  have A28 := Aside0.mk A280
                                  clear A280
                                  by_cases c29 : x5_3 = true
                                  · subst c29
                                    have H1 : (if t357 = true then (gimballaw23_FrameBegins.l1 kj21 l0 x3_1 t357 (wrap64 (x6_3 - 1)) ((rd_T56 l0 x3_1).f0.f0) ((rd_T56 l0 x3_1).f0.f1) ((rd_T56 l0 x3_1).f0.f2) ((rd_T56 l0 x3_1).f1)) else (some false)) = some r := by rw [if_pos rfl] at H; exact H
                                    clear H
                                    have H := H1
                                    clear H1
                                    by_cases c30 : t357 = true
                                    · subst c30
                                      have H1 : (gimballaw23_FrameBegins.l1 kj21 l0 x3_1 true (wrap64 (x6_3 - 1)) ((rd_T56 l0 x3_1).f0.f0) ((rd_T56 l0 x3_1).f0.f1) ((rd_T56 l0 x3_1).f0.f2) ((rd_T56 l0 x3_1).f1)) = some r := by rw [if_pos rfl] at H; exact H
                                      clear H
                                      have H := H1
                                      clear H1
                                      have H' := Aside0.mk H
                                      clear H
                                      have hcz31_0 : wc.cell? ⟨gb352, 0, none⟩ = some (.int .i64 ((rd_T56 l0 x3_1).f0.f0)) := (blk_cell BK352.out 0).trans rfl
                                      have hcz31_1 : wc.cell? ⟨gb352, 1, none⟩ = some (.int .i64 ((rd_T56 l0 x3_1).f0.f1)) := (blk_cell BK352.out 1).trans rfl
                                      have hcz31_2 : wc.cell? ⟨gb352, 2, none⟩ = some (.slice A351_2 ((rd_T56 l0 x3_1).f0.f2).length c351_2) := (blk_cell BK352.out 2).trans rfl
                                      have hcz31_3 : wc.cell? ⟨gb352, 3, none⟩ = some (.slice A351_3 ((rd_T56 l0 x3_1).f1).length c351_3) := (blk_cell BK352.out 3).trans rfl
                                      have hfz31_0 := blk_frozen BK352.out 0
                                      have hfz31_1 := blk_frozen BK352.out 1
                                      have hfz31_2 := blk_frozen BK352.out 2
                                      have hfz31_3 := blk_frozen BK352.out 3
                                      obtain ⟨i032, hi032, _, hsz32, _⟩ := info_parts info5
                                      obtain ⟨hcut32, hA32, hC32⟩ := print_take_of (P := Try.prog) (Value.int .u8) 0 25 5 .i64 Try.underlying25 hi032 hsz32 A351_3 c351_3 ((rd_T56 l0 x3_1).f1) x6_3 (of_decide_eq_true (by first | (with_reducible assumption) | assumption)) (of_decide_eq_true (by first | (with_reducible assumption) | assumption)) HC351_3.out
                                      have HR356 := Aside0.mk (Kd.C_of_reads (h1 := fun _ => rfl) (hA32 _ (Kd.reads_of_C HR351_3.out)))
                                      have HC356 := Aside0.mk hC32
                                      clear hA32 hC32 hi032 hsz32
                                      go_wp2_with (first | ((with_reducible refine gate_callee (f := 37) rfl ?_); refine goesL_ (some 52) rfl rfl Try.func37 (by kernel_rfl) rfl #[.slice A351_3 (((rd_T56 l0 x3_1).f1).take (x6_3 : Int).toNat).length c351_3] rfl (by (try simp only [List.map_toArray, List.map_cons, List.map_nil]); first | done | (rw [show (((rd_T56 l0 x3_1).f1).take (x6_3 : Int).toNat).length = x6_3.toNat from (by rw [List.length_take]; have h_ : (x6_3 : Int) ≤ (((rd_T56 l0 x3_1).f1).length : Int) := of_decide_eq_true (by first | (with_reducible assumption) | assumption); omega)] <;> rfl) | rfl | (simp only [List.length_drop, List.length_take]; rfl)) ?_; (with_reducible refine (frame_Begins.calls kj21 _ _ (((rd_T56 l0 x3_1).f1).take (x6_3 : Int).toNat) true _ ?side1 ?side2 A28.out).mono ?_); (case side1 => repeat (first | exact (Kd.C_below HR356.out HB.out) | (with_reducible refine Kd.C_alloc ?_ _) | (with_reducible refine Kd.C_drewN ?_ _) | (with_reducible refine Kd.C_drew ?_))); (case side2 => exact HC356.out); rintro e w33 ⟨rfl, hb⟩; refine ⟨_, rfl, ?_⟩; have n0_ := Aside0.mk (blk_below (g := gb352) (o := .cells #[.int .i64 ((rd_T56 l0 x3_1).f0.f0), .int .i64 ((rd_T56 l0 x3_1).f0.f1), .slice A351_2 ((rd_T56 l0 x3_1).f0.f2).length c351_2, .slice A351_3 ((rd_T56 l0 x3_1).f1).length c351_3] 56 (0, 0)) (by (with_reducible repeat (first | refine blk_drewN ?_ _ | refine blk_drew ?_ | refine blk_alloc ?_ _)); exact BK352.out) hb); have n1_ := Aside0.mk (below_step (by repeat (first | (with_reducible first | exact HB.out | apply below_alloc | apply pw_below_drewN | apply below_drew1 | refine below_set ?_ GE352.out) | exact HB.out)) hb); clear BK352; clear HB; have BK352 := n0_; have HB := n1_; clear n0_ n1_; (try clear hb); (try clear hb2); (try clear hk); (try clear hi)))
                                      go_roundg kj21
                                      case measure => have := HK1.out; have := HJ1.out; have := HK3.out; have := HJ21.out; omega
                                      case rel => exact ⟨(true), (wrap64 (x6_3 - 1)), (by first | rfl | (simp; done) | (simp [*]; done)), (by first | rfl | (simp; done) | (simp [*]; done)), H', ⟨by have := HK1.out; have := HJ1.out; have := HK3.out; have := HJ21.out; omega⟩, ⟨by (with_reducible repeat (first | refine blk_drewN ?_ _ | refine blk_drew ?_ | refine blk_alloc ?_ _)); exact BK352.out⟩, ⟨by repeat (first | (with_reducible first | exact HB.out | apply below_alloc | apply pw_below_drewN | apply below_drew1 | refine below_set ?_ GE352.out) | exact HB.out)⟩⟩
                                    · replace c30 := Bool.eq_false_iff.mpr c30
                                      subst c30
                                      have H1 : (some false) = some r := by rw [if_neg (show ¬ (false = true) by decide)] at H; exact H
                                      clear H
                                      have H := H1
                                      clear H1
                                      obtain rfl := Option.some.inj H
                                      have hcz34_0 : wc.cell? ⟨gb352, 0, none⟩ = some (.int .i64 ((rd_T56 l0 x3_1).f0.f0)) := (blk_cell BK352.out 0).trans rfl
                                      have hcz34_1 : wc.cell? ⟨gb352, 1, none⟩ = some (.int .i64 ((rd_T56 l0 x3_1).f0.f1)) := (blk_cell BK352.out 1).trans rfl
                                      have hcz34_2 : wc.cell? ⟨gb352, 2, none⟩ = some (.slice A351_2 ((rd_T56 l0 x3_1).f0.f2).length c351_2) := (blk_cell BK352.out 2).trans rfl
                                      have hcz34_3 : wc.cell? ⟨gb352, 3, none⟩ = some (.slice A351_3 ((rd_T56 l0 x3_1).f1).length c351_3) := (blk_cell BK352.out 3).trans rfl
                                      have hfz34_0 := blk_frozen BK352.out 0
                                      have hfz34_1 := blk_frozen BK352.out 1
                                      have hfz34_2 := blk_frozen BK352.out 2
                                      have hfz34_3 := blk_frozen BK352.out 3
                                      obtain ⟨i035, hi035, _, hsz35, _⟩ := info_parts info5
                                      obtain ⟨hcut35, hA35, hC35⟩ := print_take_of (P := Try.prog) (Value.int .u8) 0 25 5 .i64 Try.underlying25 hi035 hsz35 A351_3 c351_3 ((rd_T56 l0 x3_1).f1) x6_3 (of_decide_eq_true (by first | (with_reducible assumption) | assumption)) (of_decide_eq_true (by first | (with_reducible assumption) | assumption)) HC351_3.out
                                      have HR356 := Aside0.mk (Kd.C_of_reads (h1 := fun _ => rfl) (hA35 _ (Kd.reads_of_C HR351_3.out)))
                                      have HC356 := Aside0.mk hC35
                                      clear hA35 hC35 hi035 hsz35
                                      go_wp2_with (first | ((with_reducible refine gate_callee (f := 37) rfl ?_); refine goesL_ (some 52) rfl rfl Try.func37 (by kernel_rfl) rfl #[.slice A351_3 (((rd_T56 l0 x3_1).f1).take (x6_3 : Int).toNat).length c351_3] rfl (by (try simp only [List.map_toArray, List.map_cons, List.map_nil]); first | done | (rw [show (((rd_T56 l0 x3_1).f1).take (x6_3 : Int).toNat).length = x6_3.toNat from (by rw [List.length_take]; have h_ : (x6_3 : Int) ≤ (((rd_T56 l0 x3_1).f1).length : Int) := of_decide_eq_true (by first | (with_reducible assumption) | assumption); omega)] <;> rfl) | rfl | (simp only [List.length_drop, List.length_take]; rfl)) ?_; (with_reducible refine (frame_Begins.calls kj21 _ _ (((rd_T56 l0 x3_1).f1).take (x6_3 : Int).toNat) false _ ?side1 ?side2 A28.out).mono ?_); (case side1 => repeat (first | exact (Kd.C_below HR356.out HB.out) | (with_reducible refine Kd.C_alloc ?_ _) | (with_reducible refine Kd.C_drewN ?_ _) | (with_reducible refine Kd.C_drew ?_))); (case side2 => exact HC356.out); rintro e w36 ⟨rfl, hb⟩; refine ⟨_, rfl, ?_⟩; have n0_ := Aside0.mk (blk_below (g := gb352) (o := .cells #[.int .i64 ((rd_T56 l0 x3_1).f0.f0), .int .i64 ((rd_T56 l0 x3_1).f0.f1), .slice A351_2 ((rd_T56 l0 x3_1).f0.f2).length c351_2, .slice A351_3 ((rd_T56 l0 x3_1).f1).length c351_3] 56 (0, 0)) (by (with_reducible repeat (first | refine blk_drewN ?_ _ | refine blk_drew ?_ | refine blk_alloc ?_ _)); exact BK352.out) hb); have n1_ := Aside0.mk (below_step (by repeat (first | (with_reducible first | exact HB.out | apply below_alloc | apply pw_below_drewN | apply below_drew1 | refine below_set ?_ GE352.out) | exact HB.out)) hb); clear BK352; clear HB; have BK352 := n0_; have HB := n1_; clear n0_ n1_; (try clear hb); (try clear hb2); (try clear hk); (try clear hi)))
                                      go_ret
                                      exact ⟨by first | rfl | (simp [errW_none, errW_some] <;> rfl) | (simp [*, errW_none, errW_some] <;> rfl), by repeat (first | (with_reducible first | exact HB.out | apply below_alloc | apply pw_below_drewN | apply below_drew1 | refine below_set ?_ GE352.out) | exact HB.out)⟩
                                  · replace c29 := Bool.eq_false_iff.mpr c29
                                    subst c29
                                    have H1 : (gimballaw23_FrameBegins.l1 kj21 l0 x3_1 t357 (wrap64 (x6_3 - 1)) ((rd_T56 l0 x3_1).f0.f0) ((rd_T56 l0 x3_1).f0.f1) ((rd_T56 l0 x3_1).f0.f2) ((rd_T56 l0 x3_1).f1)) = some r := by rw [if_neg (show ¬ (false = true) by decide)] at H; exact H
                                    clear H
                                    have H := H1
                                    clear H1
                                    have H' := Aside0.mk H
                                    clear H
                                    have hcz37_0 : wc.cell? ⟨gb352, 0, none⟩ = some (.int .i64 ((rd_T56 l0 x3_1).f0.f0)) := (blk_cell BK352.out 0).trans rfl
                                    have hcz37_1 : wc.cell? ⟨gb352, 1, none⟩ = some (.int .i64 ((rd_T56 l0 x3_1).f0.f1)) := (blk_cell BK352.out 1).trans rfl
                                    have hcz37_2 : wc.cell? ⟨gb352, 2, none⟩ = some (.slice A351_2 ((rd_T56 l0 x3_1).f0.f2).length c351_2) := (blk_cell BK352.out 2).trans rfl
                                    have hcz37_3 : wc.cell? ⟨gb352, 3, none⟩ = some (.slice A351_3 ((rd_T56 l0 x3_1).f1).length c351_3) := (blk_cell BK352.out 3).trans rfl
                                    have hfz37_0 := blk_frozen BK352.out 0
                                    have hfz37_1 := blk_frozen BK352.out 1
                                    have hfz37_2 := blk_frozen BK352.out 2
                                    have hfz37_3 := blk_frozen BK352.out 3
                                    obtain ⟨i038, hi038, _, hsz38, _⟩ := info_parts info5
                                    obtain ⟨hcut38, hA38, hC38⟩ := print_take_of (P := Try.prog) (Value.int .u8) 0 25 5 .i64 Try.underlying25 hi038 hsz38 A351_3 c351_3 ((rd_T56 l0 x3_1).f1) x6_3 (of_decide_eq_true (by first | (with_reducible assumption) | assumption)) (of_decide_eq_true (by first | (with_reducible assumption) | assumption)) HC351_3.out
                                    have HR356 := Aside0.mk (Kd.C_of_reads (h1 := fun _ => rfl) (hA38 _ (Kd.reads_of_C HR351_3.out)))
                                    have HC356 := Aside0.mk hC38
                                    clear hA38 hC38 hi038 hsz38
                                    go_wp2_with (first | ((with_reducible refine gate_callee (f := 37) rfl ?_); refine goesL_ (some 52) rfl rfl Try.func37 (by kernel_rfl) rfl #[.slice A351_3 (((rd_T56 l0 x3_1).f1).take (x6_3 : Int).toNat).length c351_3] rfl (by (try simp only [List.map_toArray, List.map_cons, List.map_nil]); first | done | (rw [show (((rd_T56 l0 x3_1).f1).take (x6_3 : Int).toNat).length = x6_3.toNat from (by rw [List.length_take]; have h_ : (x6_3 : Int) ≤ (((rd_T56 l0 x3_1).f1).length : Int) := of_decide_eq_true (by first | (with_reducible assumption) | assumption); omega)] <;> rfl) | rfl | (simp only [List.length_drop, List.length_take]; rfl)) ?_; (with_reducible refine (frame_Begins.calls kj21 _ _ (((rd_T56 l0 x3_1).f1).take (x6_3 : Int).toNat) t357 _ ?side1 ?side2 A28.out).mono ?_); (case side1 => repeat (first | exact (Kd.C_below HR356.out HB.out) | (with_reducible refine Kd.C_alloc ?_ _) | (with_reducible refine Kd.C_drewN ?_ _) | (with_reducible refine Kd.C_drew ?_))); (case side2 => exact HC356.out); rintro e w39 ⟨rfl, hb⟩; refine ⟨_, rfl, ?_⟩; have n0_ := Aside0.mk (blk_below (g := gb352) (o := .cells #[.int .i64 ((rd_T56 l0 x3_1).f0.f0), .int .i64 ((rd_T56 l0 x3_1).f0.f1), .slice A351_2 ((rd_T56 l0 x3_1).f0.f2).length c351_2, .slice A351_3 ((rd_T56 l0 x3_1).f1).length c351_3] 56 (0, 0)) (by (with_reducible repeat (first | refine blk_drewN ?_ _ | refine blk_drew ?_ | refine blk_alloc ?_ _)); exact BK352.out) hb); have n1_ := Aside0.mk (below_step (by repeat (first | (with_reducible first | exact HB.out | apply below_alloc | apply pw_below_drewN | apply below_drew1 | refine below_set ?_ GE352.out) | exact HB.out)) hb); clear BK352; clear HB; have BK352 := n0_; have HB := n1_; clear n0_ n1_; (try clear hb); (try clear hb2); (try clear hk); (try clear hi)))
                                    go_roundg kj21
                                    case measure => have := HK1.out; have := HJ1.out; have := HK3.out; have := HJ21.out; omega
                                    case rel => exact ⟨(t357), (wrap64 (x6_3 - 1)), (by first | rfl | (simp; done) | (simp [*]; done)), (by first | rfl | (simp; done) | (simp [*]; done)), H', ⟨by have := HK1.out; have := HJ1.out; have := HK3.out; have := HJ21.out; omega⟩, ⟨by (with_reducible repeat (first | refine blk_drewN ?_ _ | refine blk_drew ?_ | refine blk_alloc ?_ _)); exact BK352.out⟩, ⟨by repeat (first | (with_reducible first | exact HB.out | apply below_alloc | apply pw_below_drewN | apply below_drew1 | refine below_set ?_ GE352.out) | exact HB.out)⟩⟩
                                · rw [if_neg c27] at H
                                  exact absurd H (by simp)
                              · rw [if_neg c26] at H
                                exact absurd H (by simp)
                            · replace c25 := Bool.eq_false_iff.mpr c25
                              subst c25
                              have H1 : ((frame_Decode.f kj21 ((rd_T56 l0 x3_1).f1)).bind fun bt358 => ((gimballaw23_num.f bt358.2.2.2.2).bind fun t366 => (if t366 = 0 then ((frame_Begins.f kj21 ((rd_T56 l0 x3_1).f1)).bind fun t367 => (if t367 = true then (if bt358.2.2.2.1 < 7 then (some false) else (if bt358.2.2.2.1 > (((rd_T56 l0 x3_1).f1).length : Int) then (some false) else (gimballaw23_FrameBegins.l0 kj21 l0 (wrap64 (x3_1 + 1))))) else (some false))) else (gimballaw23_FrameBegins.l0 kj21 l0 (wrap64 (x3_1 + 1)))))) = some r := by rw [if_neg (show ¬ (false = true) by decide)] at H; exact H
                              clear H
                              have H := H1
                              clear H1
                              replace H := Option.bind_eq_some_iff.mp H
                              obtain ⟨⟨t358, t359, t360, t363, t364⟩, A400, H⟩ := H
                              replace H : ((gimballaw23_num.f t364).bind fun t366 => (if t366 = 0 then ((frame_Begins.f kj21 ((rd_T56 l0 x3_1).f1)).bind fun t367 => (if t367 = true then (if t363 < 7 then (some false) else (if t363 > (((rd_T56 l0 x3_1).f1).length : Int) then (some false) else (gimballaw23_FrameBegins.l0 kj21 l0 (wrap64 (x3_1 + 1))))) else (some false))) else (gimballaw23_FrameBegins.l0 kj21 l0 (wrap64 (x3_1 + 1))))) = some r := H
                              have A40 := Aside0.mk A400
                              clear A400
                              replace H := Option.bind_eq_some_iff.mp H
                              obtain ⟨t366, A410, H⟩ := H
                              replace H : (if t366 = 0 then ((frame_Begins.f kj21 ((rd_T56 l0 x3_1).f1)).bind fun t367 => (if t367 = true then (if t363 < 7 then (some false) else (if t363 > (((rd_T56 l0 x3_1).f1).length : Int) then (some false) else (gimballaw23_FrameBegins.l0 kj21 l0 (wrap64 (x3_1 + 1))))) else (some false))) else (gimballaw23_FrameBegins.l0 kj21 l0 (wrap64 (x3_1 + 1)))) = some r := H
                              have A41 := Aside0.mk A410
                              clear A410
                              by_cases c42 : t366 = 0
                              · rw [if_pos c42] at H
                                have c42b0 : (t366 == 0) = true := beq_iff_eq.mpr c42
                                have c42b1 : (t366 != 0) = false := bne_eq_false_iff_eq.mpr c42
                                clear c42
                                replace H := Option.bind_eq_some_iff.mp H
                                obtain ⟨t367, A430, H⟩ := H
                                replace H : (if t367 = true then (if t363 < 7 then (some false) else (if t363 > (((rd_T56 l0 x3_1).f1).length : Int) then (some false) else (gimballaw23_FrameBegins.l0 kj21 l0 (wrap64 (x3_1 + 1))))) else (some false)) = some r := H
                                have A43 := Aside0.mk A430
                                clear A430
                                by_cases c44 : t367 = true
                                · subst c44
                                  have H1 : (if t363 < 7 then (some false) else (if t363 > (((rd_T56 l0 x3_1).f1).length : Int) then (some false) else (gimballaw23_FrameBegins.l0 kj21 l0 (wrap64 (x3_1 + 1))))) = some r := by rw [if_pos rfl] at H; exact H
                                  clear H
                                  have H := H1
                                  clear H1
                                  by_cases c45 : t363 < 7
                                  · rw [if_pos c45] at H
                                    have c45b0 : decide (t363 < 7) = true := decide_eq_true c45
                                    clear c45
                                    obtain rfl := Option.some.inj H
                                    have hcz46_0 : wc.cell? ⟨gb352, 0, none⟩ = some (.int .i64 ((rd_T56 l0 x3_1).f0.f0)) := (blk_cell BK352.out 0).trans rfl
                                    have hcz46_1 : wc.cell? ⟨gb352, 1, none⟩ = some (.int .i64 ((rd_T56 l0 x3_1).f0.f1)) := (blk_cell BK352.out 1).trans rfl
                                    have hcz46_2 : wc.cell? ⟨gb352, 2, none⟩ = some (.slice A351_2 ((rd_T56 l0 x3_1).f0.f2).length c351_2) := (blk_cell BK352.out 2).trans rfl
                                    have hcz46_3 : wc.cell? ⟨gb352, 3, none⟩ = some (.slice A351_3 ((rd_T56 l0 x3_1).f1).length c351_3) := (blk_cell BK352.out 3).trans rfl
                                    have hfz46_0 := blk_frozen BK352.out 0
                                    have hfz46_1 := blk_frozen BK352.out 1
                                    have hfz46_2 := blk_frozen BK352.out 2
                                    have hfz46_3 := blk_frozen BK352.out 3
                                    go_wp2_with (first | ((with_reducible refine gate_callee (f := 36) rfl ?_); refine goesL_ (some 62) rfl rfl Try.func36 (by kernel_rfl) rfl #[.slice A351_3 ((rd_T56 l0 x3_1).f1).length c351_3] rfl (by (try simp only [List.map_toArray, List.map_cons, List.map_nil]); first | done | rfl | (simp only [List.length_drop, List.length_take]; rfl)) ?_; (with_reducible refine (frame_Decode.calls kj21 _ _ ((rd_T56 l0 x3_1).f1) t358 t359 t360 t363 t364 _ ?side1 ?side2 A40.out).mono ?_); (case side1 => repeat (first | exact (Kd.C_below HR351_3.out HB.out) | (with_reducible refine Kd.C_alloc ?_ _) | (with_reducible refine Kd.C_drewN ?_ _) | (with_reducible refine Kd.C_drew ?_))); (case side2 => exact HC351_3.out); rintro e w47 ⟨v361, rfl, ho0, hb⟩; refine ⟨_, rfl, ?_⟩; have n0_ := Aside0.mk (Kd.R_lower ho0 (below_size (by repeat (first | (with_reducible first | exact HB.out | apply below_alloc | apply pw_below_drewN | apply below_drew1 | refine below_set ?_ GE352.out) | exact HB.out)))); have n1_ := Aside0.mk (blk_below (g := gb352) (o := .cells #[.int .i64 ((rd_T56 l0 x3_1).f0.f0), .int .i64 ((rd_T56 l0 x3_1).f0.f1), .slice A351_2 ((rd_T56 l0 x3_1).f0.f2).length c351_2, .slice A351_3 ((rd_T56 l0 x3_1).f1).length c351_3] 56 (0, 0)) (by (with_reducible repeat (first | refine blk_drewN ?_ _ | refine blk_drew ?_ | refine blk_alloc ?_ _)); exact BK352.out) hb); have n2_ := Aside0.mk (below_step (by repeat (first | (with_reducible first | exact HB.out | apply below_alloc | apply pw_below_drewN | apply below_drew1 | refine below_set ?_ GE352.out) | exact HB.out)) hb); clear BK352; clear HB; have HO362 := n0_; have BK352 := n1_; have HB := n2_; clear n0_ n1_ n2_; (try clear hb); (try clear hb2); (try clear hk); (try clear hi); (try clear ho0)) | ((with_reducible refine gate_dst (N := 8) rfl ?_); (try (refine gate_guard (by rfl) ?_; dsimp only)); refine box_event ?hg (N := 8) ?hd (cs := #[.int .i64 0, .int .i64 0, .slice none 0 0]) (t := 54) ?hr ?_; (case hd => rfl); (case hg => rfl); (case hr => first | (go_simp; done) | (go_simp; rfl)); intro gb365 hg w48 hbox hb; have n0_ := Aside0.mk (Kd.R_below (by (with_reducible repeat (first | apply Kd.R_alloc | apply Kd.R_drewN | apply Kd.R_drew)); exact HO362.out) hb); have n1_ := Aside0.mk (blk_below (g := gb352) (o := .cells #[.int .i64 ((rd_T56 l0 x3_1).f0.f0), .int .i64 ((rd_T56 l0 x3_1).f0.f1), .slice A351_2 ((rd_T56 l0 x3_1).f0.f2).length c351_2, .slice A351_3 ((rd_T56 l0 x3_1).f1).length c351_3] 56 (0, 0)) (by (with_reducible repeat (first | refine blk_drewN ?_ _ | refine blk_drew ?_ | refine blk_alloc ?_ _)); exact BK352.out) hb); have n2_ := Aside0.mk (below_step (by repeat (first | (with_reducible first | exact HB.out | apply below_alloc | apply pw_below_drewN | apply below_drew1 | refine below_set ?_ GE352.out) | exact HB.out)) hb); have n3_ := Aside0.mk (hbox); have n4_ := Aside0.mk ((by rw [hg]; exact (below_size (by repeat (first | (with_reducible first | exact HB.out | apply below_alloc | apply pw_below_drewN | apply below_drew1 | refine below_set ?_ GE352.out) | exact HB.out))) : w.heap.size ≤ gb365)); have n5_ := Aside0.mk ((by rw [hg]; exact (below_size (by repeat (first | (with_reducible first | exact HB.out | apply below_alloc | apply pw_below_drewN | apply below_drew1 | refine below_set ?_ GE352.out) | exact HB.out))) : w.heap.size ≤ gb365)); have n6_ := Aside0.mk ((by rw [hg]; exact Nat.ne_of_lt (blk_lt (g := gb352) (o := .cells #[.int .i64 ((rd_T56 l0 x3_1).f0.f0), .int .i64 ((rd_T56 l0 x3_1).f0.f1), .slice A351_2 ((rd_T56 l0 x3_1).f0.f2).length c351_2, .slice A351_3 ((rd_T56 l0 x3_1).f1).length c351_3] 56 (0, 0)) (by (with_reducible repeat (first | refine blk_drewN ?_ _ | refine blk_drew ?_ | refine blk_alloc ?_ _)); exact BK352.out)) : gb352 ≠ gb365)); have n7_ := Aside0.mk ((by rw [hg]; exact Nat.ne_of_gt (blk_lt (g := gb352) (o := .cells #[.int .i64 ((rd_T56 l0 x3_1).f0.f0), .int .i64 ((rd_T56 l0 x3_1).f0.f1), .slice A351_2 ((rd_T56 l0 x3_1).f0.f2).length c351_2, .slice A351_3 ((rd_T56 l0 x3_1).f1).length c351_3] 56 (0, 0)) (by (with_reducible repeat (first | refine blk_drewN ?_ _ | refine blk_drew ?_ | refine blk_alloc ?_ _)); exact BK352.out)) : gb365 ≠ gb352)); clear HO362; clear BK352; clear HB; have HO362 := n0_; have BK352 := n1_; have HB := n2_; have BK365 := n3_; have GW365 := n4_; have GE365 := n5_; have NB352_365 := n6_; have NB365_352 := n7_; clear n0_ n1_ n2_ n3_ n4_ n5_ n6_ n7_; clear hb hbox hg; have hnb49 := NB365_352.out; have hnc49 := NB352_365.out; have hcz50_0 : w48.cell? ⟨gb365, 0, none⟩ = some (.int .i64 0) := (blk_cell BK365.out 0).trans rfl; have hcz50_1 : w48.cell? ⟨gb365, 1, none⟩ = some (.int .i64 0) := (blk_cell BK365.out 1).trans rfl; have hcz50_2 : w48.cell? ⟨gb365, 2, none⟩ = some (.slice none 0 0) := (blk_cell BK365.out 2).trans rfl; have hfz50_0 := blk_frozen BK365.out 0; have hfz50_1 := blk_frozen BK365.out 1; have hfz50_2 := blk_frozen BK365.out 2; obtain ⟨Ao51, co51, eo51⟩ := Kd.R_slice HO362.out; subst eo51) | ((with_reducible refine gate_callee (f := 33) rfl ?_); refine goesL_ (some 67) rfl rfl Try.func33 (by kernel_rfl) rfl #[.int .i64 t364] rfl (by (try simp only [List.map_toArray, List.map_cons, List.map_nil]); first | done | rfl | (simp only [List.length_drop, List.length_take]; rfl)) ?_; (with_reducible refine (gimballaw23_num.calls t364 t366 _ A41.out).mono ?_); rintro e w' ⟨rfl, ⟨nd, rfl⟩⟩; refine ⟨_, rfl, ?_⟩; have hcz52_0 : w48.cell? ⟨gb352, 0, none⟩ = some (.int .i64 ((rd_T56 l0 x3_1).f0.f0)) := (blk_cell BK352.out 0).trans rfl; have hcz52_1 : w48.cell? ⟨gb352, 1, none⟩ = some (.int .i64 ((rd_T56 l0 x3_1).f0.f1)) := (blk_cell BK352.out 1).trans rfl; have hcz52_2 : w48.cell? ⟨gb352, 2, none⟩ = some (.slice A351_2 ((rd_T56 l0 x3_1).f0.f2).length c351_2) := (blk_cell BK352.out 2).trans rfl; have hcz52_3 : w48.cell? ⟨gb352, 3, none⟩ = some (.slice A351_3 ((rd_T56 l0 x3_1).f1).length c351_3) := (blk_cell BK352.out 3).trans rfl; have hfz52_0 := blk_frozen BK352.out 0; have hfz52_1 := blk_frozen BK352.out 1; have hfz52_2 := blk_frozen BK352.out 2; have hfz52_3 := blk_frozen BK352.out 3) | (go_at_call 37; (with_reducible refine (frame_Begins.calls kj21 _ _ ((rd_T56 l0 x3_1).f1) true _ ?side1 ?side2 A43.out).mono ?_); (case side1 => exact Kd.C_below HR351_3.out (by repeat (first | (with_reducible first | exact HB.out | apply below_alloc | apply pw_below_drewN | apply below_drew1 | refine below_set ?_ GE352.out | refine below_set ?_ GE365.out) | exact HB.out))); (case side2 => exact HC351_3.out); rintro e w53 ⟨rfl, hb⟩; have n0_ := Aside0.mk (Kd.R_below (by (with_reducible repeat (first | apply Kd.R_alloc | apply Kd.R_drewN | apply Kd.R_drew)); exact (Kd.R_mono (Kd.R_far (p := ⟨gb365, 2, none⟩) (Kd.R_far (p := ⟨gb365, 1, none⟩) (Kd.R_far (p := ⟨gb365, 0, none⟩) (Kd.R_types HO362.out BK365.out (by decide)) (fun _ hk => hk.2) (.int .i64 t358)) (fun _ hk => hk.2) (.int .i64 t359)) (fun _ hk => hk.2) (.slice Ao51 t360.length co51)) (fun _ h_ => h_.1))) hb); have n1_ := Aside0.mk (blk_below (g := gb352) (o := .cells #[.int .i64 ((rd_T56 l0 x3_1).f0.f0), .int .i64 ((rd_T56 l0 x3_1).f0.f1), .slice A351_2 ((rd_T56 l0 x3_1).f0.f2).length c351_2, .slice A351_3 ((rd_T56 l0 x3_1).f1).length c351_3] 56 (0, 0)) (by (with_reducible repeat (first | refine blk_drewN ?_ _ | refine blk_drew ?_ | refine blk_alloc ?_ _)); refine blk_far ?_ NB352_365.out _; (with_reducible repeat (first | refine blk_drewN ?_ _ | refine blk_drew ?_ | refine blk_alloc ?_ _)); refine blk_far ?_ NB352_365.out _; (with_reducible repeat (first | refine blk_drewN ?_ _ | refine blk_drew ?_ | refine blk_alloc ?_ _)); refine blk_far ?_ NB352_365.out _; (with_reducible repeat (first | refine blk_drewN ?_ _ | refine blk_drew ?_ | refine blk_alloc ?_ _)); exact BK352.out) hb); have n2_ := Aside0.mk (blk_below (g := gb365) (o := .cells #[.int .i64 t358, .int .i64 t359, .slice Ao51 t360.length co51] 54 (0, 0)) (by (with_reducible repeat (first | refine blk_drewN ?_ _ | refine blk_drew ?_ | refine blk_alloc ?_ _)); refine blk_put (cs := #[.int .i64 t358, .int .i64 t359, .slice none 0 0]) ?_ 2 _ rfl; (with_reducible repeat (first | refine blk_drewN ?_ _ | refine blk_drew ?_ | refine blk_alloc ?_ _)); refine blk_put (cs := #[.int .i64 t358, .int .i64 0, .slice none 0 0]) ?_ 1 _ rfl; (with_reducible repeat (first | refine blk_drewN ?_ _ | refine blk_drew ?_ | refine blk_alloc ?_ _)); refine blk_put (cs := #[.int .i64 0, .int .i64 0, .slice none 0 0]) ?_ 0 _ rfl; (with_reducible repeat (first | refine blk_drewN ?_ _ | refine blk_drew ?_ | refine blk_alloc ?_ _)); exact BK365.out) hb); have n3_ := Aside0.mk (below_step (by repeat (first | (with_reducible first | exact HB.out | apply below_alloc | apply pw_below_drewN | apply below_drew1 | refine below_set ?_ GE352.out | refine below_set ?_ GE365.out) | exact HB.out)) hb); clear HO362; clear BK352; clear BK365; clear HB; have HO362 := n0_; have BK352 := n1_; have BK365 := n2_; have HB := n3_; clear n0_ n1_ n2_ n3_; (try clear hb); (try clear hb2); (try clear hk); (try clear hi)))
                                    go_ret
                                    exact ⟨by first | rfl | (simp [errW_none, errW_some] <;> rfl) | (simp [*, errW_none, errW_some] <;> rfl), by repeat (first | (with_reducible first | exact HB.out | apply below_alloc | apply pw_below_drewN | apply below_drew1 | refine below_set ?_ GE352.out | refine below_set ?_ GE365.out) | exact HB.out)⟩
                                  · rw [if_neg c45] at H
                                    have c45b0 : decide (t363 < 7) = false := decide_eq_false c45
                                    clear c45
                                    by_cases c54 : t363 > (((rd_T56 l0 x3_1).f1).length : Int)
                                    · rw [if_pos c54] at H
                                      have c54b0 : decide ((((rd_T56 l0 x3_1).f1).length : Int) < t363) = true := decide_eq_true c54
                                      clear c54
                                      obtain rfl := Option.some.inj H
                                      have hcz55_0 : wc.cell? ⟨gb352, 0, none⟩ = some (.int .i64 ((rd_T56 l0 x3_1).f0.f0)) := (blk_cell BK352.out 0).trans rfl
                                      have hcz55_1 : wc.cell? ⟨gb352, 1, none⟩ = some (.int .i64 ((rd_T56 l0 x3_1).f0.f1)) := (blk_cell BK352.out 1).trans rfl
                                      have hcz55_2 : wc.cell? ⟨gb352, 2, none⟩ = some (.slice A351_2 ((rd_T56 l0 x3_1).f0.f2).length c351_2) := (blk_cell BK352.out 2).trans rfl
                                      have hcz55_3 : wc.cell? ⟨gb352, 3, none⟩ = some (.slice A351_3 ((rd_T56 l0 x3_1).f1).length c351_3) := (blk_cell BK352.out 3).trans rfl
                                      have hfz55_0 := blk_frozen BK352.out 0
                                      have hfz55_1 := blk_frozen BK352.out 1
                                      have hfz55_2 := blk_frozen BK352.out 2
                                      have hfz55_3 := blk_frozen BK352.out 3
                                      go_wp2_with (first | ((with_reducible refine gate_callee (f := 36) rfl ?_); refine goesL_ (some 62) rfl rfl Try.func36 (by kernel_rfl) rfl #[.slice A351_3 ((rd_T56 l0 x3_1).f1).length c351_3] rfl (by (try simp only [List.map_toArray, List.map_cons, List.map_nil]); first | done | rfl | (simp only [List.length_drop, List.length_take]; rfl)) ?_; (with_reducible refine (frame_Decode.calls kj21 _ _ ((rd_T56 l0 x3_1).f1) t358 t359 t360 t363 t364 _ ?side1 ?side2 A40.out).mono ?_); (case side1 => repeat (first | exact (Kd.C_below HR351_3.out HB.out) | (with_reducible refine Kd.C_alloc ?_ _) | (with_reducible refine Kd.C_drewN ?_ _) | (with_reducible refine Kd.C_drew ?_))); (case side2 => exact HC351_3.out); rintro e w56 ⟨v361, rfl, ho0, hb⟩; refine ⟨_, rfl, ?_⟩; have n0_ := Aside0.mk (Kd.R_lower ho0 (below_size (by repeat (first | (with_reducible first | exact HB.out | apply below_alloc | apply pw_below_drewN | apply below_drew1 | refine below_set ?_ GE352.out) | exact HB.out)))); have n1_ := Aside0.mk (blk_below (g := gb352) (o := .cells #[.int .i64 ((rd_T56 l0 x3_1).f0.f0), .int .i64 ((rd_T56 l0 x3_1).f0.f1), .slice A351_2 ((rd_T56 l0 x3_1).f0.f2).length c351_2, .slice A351_3 ((rd_T56 l0 x3_1).f1).length c351_3] 56 (0, 0)) (by (with_reducible repeat (first | refine blk_drewN ?_ _ | refine blk_drew ?_ | refine blk_alloc ?_ _)); exact BK352.out) hb); have n2_ := Aside0.mk (below_step (by repeat (first | (with_reducible first | exact HB.out | apply below_alloc | apply pw_below_drewN | apply below_drew1 | refine below_set ?_ GE352.out) | exact HB.out)) hb); clear BK352; clear HB; have HO362 := n0_; have BK352 := n1_; have HB := n2_; clear n0_ n1_ n2_; (try clear hb); (try clear hb2); (try clear hk); (try clear hi); (try clear ho0)) | ((with_reducible refine gate_dst (N := 8) rfl ?_); (try (refine gate_guard (by rfl) ?_; dsimp only)); refine box_event ?hg (N := 8) ?hd (cs := #[.int .i64 0, .int .i64 0, .slice none 0 0]) (t := 54) ?hr ?_; (case hd => rfl); (case hg => rfl); (case hr => first | (go_simp; done) | (go_simp; rfl)); intro gb365 hg w57 hbox hb; have n0_ := Aside0.mk (Kd.R_below (by (with_reducible repeat (first | apply Kd.R_alloc | apply Kd.R_drewN | apply Kd.R_drew)); exact HO362.out) hb); have n1_ := Aside0.mk (blk_below (g := gb352) (o := .cells #[.int .i64 ((rd_T56 l0 x3_1).f0.f0), .int .i64 ((rd_T56 l0 x3_1).f0.f1), .slice A351_2 ((rd_T56 l0 x3_1).f0.f2).length c351_2, .slice A351_3 ((rd_T56 l0 x3_1).f1).length c351_3] 56 (0, 0)) (by (with_reducible repeat (first | refine blk_drewN ?_ _ | refine blk_drew ?_ | refine blk_alloc ?_ _)); exact BK352.out) hb); have n2_ := Aside0.mk (below_step (by repeat (first | (with_reducible first | exact HB.out | apply below_alloc | apply pw_below_drewN | apply below_drew1 | refine below_set ?_ GE352.out) | exact HB.out)) hb); have n3_ := Aside0.mk (hbox); have n4_ := Aside0.mk ((by rw [hg]; exact (below_size (by repeat (first | (with_reducible first | exact HB.out | apply below_alloc | apply pw_below_drewN | apply below_drew1 | refine below_set ?_ GE352.out) | exact HB.out))) : w.heap.size ≤ gb365)); have n5_ := Aside0.mk ((by rw [hg]; exact (below_size (by repeat (first | (with_reducible first | exact HB.out | apply below_alloc | apply pw_below_drewN | apply below_drew1 | refine below_set ?_ GE352.out) | exact HB.out))) : w.heap.size ≤ gb365)); have n6_ := Aside0.mk ((by rw [hg]; exact Nat.ne_of_lt (blk_lt (g := gb352) (o := .cells #[.int .i64 ((rd_T56 l0 x3_1).f0.f0), .int .i64 ((rd_T56 l0 x3_1).f0.f1), .slice A351_2 ((rd_T56 l0 x3_1).f0.f2).length c351_2, .slice A351_3 ((rd_T56 l0 x3_1).f1).length c351_3] 56 (0, 0)) (by (with_reducible repeat (first | refine blk_drewN ?_ _ | refine blk_drew ?_ | refine blk_alloc ?_ _)); exact BK352.out)) : gb352 ≠ gb365)); have n7_ := Aside0.mk ((by rw [hg]; exact Nat.ne_of_gt (blk_lt (g := gb352) (o := .cells #[.int .i64 ((rd_T56 l0 x3_1).f0.f0), .int .i64 ((rd_T56 l0 x3_1).f0.f1), .slice A351_2 ((rd_T56 l0 x3_1).f0.f2).length c351_2, .slice A351_3 ((rd_T56 l0 x3_1).f1).length c351_3] 56 (0, 0)) (by (with_reducible repeat (first | refine blk_drewN ?_ _ | refine blk_drew ?_ | refine blk_alloc ?_ _)); exact BK352.out)) : gb365 ≠ gb352)); clear HO362; clear BK352; clear HB; have HO362 := n0_; have BK352 := n1_; have HB := n2_; have BK365 := n3_; have GW365 := n4_; have GE365 := n5_; have NB352_365 := n6_; have NB365_352 := n7_; clear n0_ n1_ n2_ n3_ n4_ n5_ n6_ n7_; clear hb hbox hg; have hnb58 := NB365_352.out; have hnc58 := NB352_365.out; have hcz59_0 : w57.cell? ⟨gb365, 0, none⟩ = some (.int .i64 0) := (blk_cell BK365.out 0).trans rfl; have hcz59_1 : w57.cell? ⟨gb365, 1, none⟩ = some (.int .i64 0) := (blk_cell BK365.out 1).trans rfl; have hcz59_2 : w57.cell? ⟨gb365, 2, none⟩ = some (.slice none 0 0) := (blk_cell BK365.out 2).trans rfl; have hfz59_0 := blk_frozen BK365.out 0; have hfz59_1 := blk_frozen BK365.out 1; have hfz59_2 := blk_frozen BK365.out 2; obtain ⟨Ao60, co60, eo60⟩ := Kd.R_slice HO362.out; subst eo60) | ((with_reducible refine gate_callee (f := 33) rfl ?_); refine goesL_ (some 67) rfl rfl Try.func33 (by kernel_rfl) rfl #[.int .i64 t364] rfl (by (try simp only [List.map_toArray, List.map_cons, List.map_nil]); first | done | rfl | (simp only [List.length_drop, List.length_take]; rfl)) ?_; (with_reducible refine (gimballaw23_num.calls t364 t366 _ A41.out).mono ?_); rintro e w' ⟨rfl, ⟨nd, rfl⟩⟩; refine ⟨_, rfl, ?_⟩; have hcz61_0 : w57.cell? ⟨gb352, 0, none⟩ = some (.int .i64 ((rd_T56 l0 x3_1).f0.f0)) := (blk_cell BK352.out 0).trans rfl; have hcz61_1 : w57.cell? ⟨gb352, 1, none⟩ = some (.int .i64 ((rd_T56 l0 x3_1).f0.f1)) := (blk_cell BK352.out 1).trans rfl; have hcz61_2 : w57.cell? ⟨gb352, 2, none⟩ = some (.slice A351_2 ((rd_T56 l0 x3_1).f0.f2).length c351_2) := (blk_cell BK352.out 2).trans rfl; have hcz61_3 : w57.cell? ⟨gb352, 3, none⟩ = some (.slice A351_3 ((rd_T56 l0 x3_1).f1).length c351_3) := (blk_cell BK352.out 3).trans rfl; have hfz61_0 := blk_frozen BK352.out 0; have hfz61_1 := blk_frozen BK352.out 1; have hfz61_2 := blk_frozen BK352.out 2; have hfz61_3 := blk_frozen BK352.out 3) | (go_at_call 37; (with_reducible refine (frame_Begins.calls kj21 _ _ ((rd_T56 l0 x3_1).f1) true _ ?side1 ?side2 A43.out).mono ?_); (case side1 => exact Kd.C_below HR351_3.out (by repeat (first | (with_reducible first | exact HB.out | apply below_alloc | apply pw_below_drewN | apply below_drew1 | refine below_set ?_ GE352.out | refine below_set ?_ GE365.out) | exact HB.out))); (case side2 => exact HC351_3.out); rintro e w62 ⟨rfl, hb⟩; have n0_ := Aside0.mk (Kd.R_below (by (with_reducible repeat (first | apply Kd.R_alloc | apply Kd.R_drewN | apply Kd.R_drew)); exact (Kd.R_mono (Kd.R_far (p := ⟨gb365, 2, none⟩) (Kd.R_far (p := ⟨gb365, 1, none⟩) (Kd.R_far (p := ⟨gb365, 0, none⟩) (Kd.R_types HO362.out BK365.out (by decide)) (fun _ hk => hk.2) (.int .i64 t358)) (fun _ hk => hk.2) (.int .i64 t359)) (fun _ hk => hk.2) (.slice Ao60 t360.length co60)) (fun _ h_ => h_.1))) hb); have n1_ := Aside0.mk (blk_below (g := gb352) (o := .cells #[.int .i64 ((rd_T56 l0 x3_1).f0.f0), .int .i64 ((rd_T56 l0 x3_1).f0.f1), .slice A351_2 ((rd_T56 l0 x3_1).f0.f2).length c351_2, .slice A351_3 ((rd_T56 l0 x3_1).f1).length c351_3] 56 (0, 0)) (by (with_reducible repeat (first | refine blk_drewN ?_ _ | refine blk_drew ?_ | refine blk_alloc ?_ _)); refine blk_far ?_ NB352_365.out _; (with_reducible repeat (first | refine blk_drewN ?_ _ | refine blk_drew ?_ | refine blk_alloc ?_ _)); refine blk_far ?_ NB352_365.out _; (with_reducible repeat (first | refine blk_drewN ?_ _ | refine blk_drew ?_ | refine blk_alloc ?_ _)); refine blk_far ?_ NB352_365.out _; (with_reducible repeat (first | refine blk_drewN ?_ _ | refine blk_drew ?_ | refine blk_alloc ?_ _)); exact BK352.out) hb); have n2_ := Aside0.mk (blk_below (g := gb365) (o := .cells #[.int .i64 t358, .int .i64 t359, .slice Ao60 t360.length co60] 54 (0, 0)) (by (with_reducible repeat (first | refine blk_drewN ?_ _ | refine blk_drew ?_ | refine blk_alloc ?_ _)); refine blk_put (cs := #[.int .i64 t358, .int .i64 t359, .slice none 0 0]) ?_ 2 _ rfl; (with_reducible repeat (first | refine blk_drewN ?_ _ | refine blk_drew ?_ | refine blk_alloc ?_ _)); refine blk_put (cs := #[.int .i64 t358, .int .i64 0, .slice none 0 0]) ?_ 1 _ rfl; (with_reducible repeat (first | refine blk_drewN ?_ _ | refine blk_drew ?_ | refine blk_alloc ?_ _)); refine blk_put (cs := #[.int .i64 0, .int .i64 0, .slice none 0 0]) ?_ 0 _ rfl; (with_reducible repeat (first | refine blk_drewN ?_ _ | refine blk_drew ?_ | refine blk_alloc ?_ _)); exact BK365.out) hb); have n3_ := Aside0.mk (below_step (by repeat (first | (with_reducible first | exact HB.out | apply below_alloc | apply pw_below_drewN | apply below_drew1 | refine below_set ?_ GE352.out | refine below_set ?_ GE365.out) | exact HB.out)) hb); clear HO362; clear BK352; clear BK365; clear HB; have HO362 := n0_; have BK352 := n1_; have BK365 := n2_; have HB := n3_; clear n0_ n1_ n2_ n3_; (try clear hb); (try clear hb2); (try clear hk); (try clear hi); have hcz63_0 : w62.cell? ⟨gb352, 0, none⟩ = some (.int .i64 ((rd_T56 l0 x3_1).f0.f0)) := (blk_cell BK352.out 0).trans rfl; have hcz63_1 : w62.cell? ⟨gb352, 1, none⟩ = some (.int .i64 ((rd_T56 l0 x3_1).f0.f1)) := (blk_cell BK352.out 1).trans rfl; have hcz63_2 : w62.cell? ⟨gb352, 2, none⟩ = some (.slice A351_2 ((rd_T56 l0 x3_1).f0.f2).length c351_2) := (blk_cell BK352.out 2).trans rfl; have hcz63_3 : w62.cell? ⟨gb352, 3, none⟩ = some (.slice A351_3 ((rd_T56 l0 x3_1).f1).length c351_3) := (blk_cell BK352.out 3).trans rfl; have hfz63_0 := blk_frozen BK352.out 0; have hfz63_1 := blk_frozen BK352.out 1; have hfz63_2 := blk_frozen BK352.out 2; have hfz63_3 := blk_frozen BK352.out 3))
                                      go_ret
                                      exact ⟨by first | rfl | (simp [errW_none, errW_some] <;> rfl) | (simp [*, errW_none, errW_some] <;> rfl), by repeat (first | (with_reducible first | exact HB.out | apply below_alloc | apply pw_below_drewN | apply below_drew1 | refine below_set ?_ GE352.out | refine below_set ?_ GE365.out) | exact HB.out)⟩
                                    · rw [if_neg c54] at H
                                      have c54b0 : decide ((((rd_T56 l0 x3_1).f1).length : Int) < t363) = false := decide_eq_false c54
                                      clear c54
                                      have H' := Aside0.mk H
                                      clear H
                                      have hcz64_0 : wc.cell? ⟨gb352, 0, none⟩ = some (.int .i64 ((rd_T56 l0 x3_1).f0.f0)) := (blk_cell BK352.out 0).trans rfl
                                      have hcz64_1 : wc.cell? ⟨gb352, 1, none⟩ = some (.int .i64 ((rd_T56 l0 x3_1).f0.f1)) := (blk_cell BK352.out 1).trans rfl
                                      have hcz64_2 : wc.cell? ⟨gb352, 2, none⟩ = some (.slice A351_2 ((rd_T56 l0 x3_1).f0.f2).length c351_2) := (blk_cell BK352.out 2).trans rfl
                                      have hcz64_3 : wc.cell? ⟨gb352, 3, none⟩ = some (.slice A351_3 ((rd_T56 l0 x3_1).f1).length c351_3) := (blk_cell BK352.out 3).trans rfl
                                      have hfz64_0 := blk_frozen BK352.out 0
                                      have hfz64_1 := blk_frozen BK352.out 1
                                      have hfz64_2 := blk_frozen BK352.out 2
                                      have hfz64_3 := blk_frozen BK352.out 3
                                      go_wp2_with (first | ((with_reducible refine gate_callee (f := 36) rfl ?_); refine goesL_ (some 62) rfl rfl Try.func36 (by kernel_rfl) rfl #[.slice A351_3 ((rd_T56 l0 x3_1).f1).length c351_3] rfl (by (try simp only [List.map_toArray, List.map_cons, List.map_nil]); first | done | rfl | (simp only [List.length_drop, List.length_take]; rfl)) ?_; (with_reducible refine (frame_Decode.calls kj21 _ _ ((rd_T56 l0 x3_1).f1) t358 t359 t360 t363 t364 _ ?side1 ?side2 A40.out).mono ?_); (case side1 => repeat (first | exact (Kd.C_below HR351_3.out HB.out) | (with_reducible refine Kd.C_alloc ?_ _) | (with_reducible refine Kd.C_drewN ?_ _) | (with_reducible refine Kd.C_drew ?_))); (case side2 => exact HC351_3.out); rintro e w65 ⟨v361, rfl, ho0, hb⟩; refine ⟨_, rfl, ?_⟩; have n0_ := Aside0.mk (Kd.R_lower ho0 (below_size (by repeat (first | (with_reducible first | exact HB.out | apply below_alloc | apply pw_below_drewN | apply below_drew1 | refine below_set ?_ GE352.out) | exact HB.out)))); have n1_ := Aside0.mk (blk_below (g := gb352) (o := .cells #[.int .i64 ((rd_T56 l0 x3_1).f0.f0), .int .i64 ((rd_T56 l0 x3_1).f0.f1), .slice A351_2 ((rd_T56 l0 x3_1).f0.f2).length c351_2, .slice A351_3 ((rd_T56 l0 x3_1).f1).length c351_3] 56 (0, 0)) (by (with_reducible repeat (first | refine blk_drewN ?_ _ | refine blk_drew ?_ | refine blk_alloc ?_ _)); exact BK352.out) hb); have n2_ := Aside0.mk (below_step (by repeat (first | (with_reducible first | exact HB.out | apply below_alloc | apply pw_below_drewN | apply below_drew1 | refine below_set ?_ GE352.out) | exact HB.out)) hb); clear BK352; clear HB; have HO362 := n0_; have BK352 := n1_; have HB := n2_; clear n0_ n1_ n2_; (try clear hb); (try clear hb2); (try clear hk); (try clear hi); (try clear ho0)) | ((with_reducible refine gate_dst (N := 8) rfl ?_); (try (refine gate_guard (by rfl) ?_; dsimp only)); refine box_event ?hg (N := 8) ?hd (cs := #[.int .i64 0, .int .i64 0, .slice none 0 0]) (t := 54) ?hr ?_; (case hd => rfl); (case hg => rfl); (case hr => first | (go_simp; done) | (go_simp; rfl)); intro gb365 hg w66 hbox hb; have n0_ := Aside0.mk (Kd.R_below (by (with_reducible repeat (first | apply Kd.R_alloc | apply Kd.R_drewN | apply Kd.R_drew)); exact HO362.out) hb); have n1_ := Aside0.mk (blk_below (g := gb352) (o := .cells #[.int .i64 ((rd_T56 l0 x3_1).f0.f0), .int .i64 ((rd_T56 l0 x3_1).f0.f1), .slice A351_2 ((rd_T56 l0 x3_1).f0.f2).length c351_2, .slice A351_3 ((rd_T56 l0 x3_1).f1).length c351_3] 56 (0, 0)) (by (with_reducible repeat (first | refine blk_drewN ?_ _ | refine blk_drew ?_ | refine blk_alloc ?_ _)); exact BK352.out) hb); have n2_ := Aside0.mk (below_step (by repeat (first | (with_reducible first | exact HB.out | apply below_alloc | apply pw_below_drewN | apply below_drew1 | refine below_set ?_ GE352.out) | exact HB.out)) hb); have n3_ := Aside0.mk (hbox); have n4_ := Aside0.mk ((by rw [hg]; exact (below_size (by repeat (first | (with_reducible first | exact HB.out | apply below_alloc | apply pw_below_drewN | apply below_drew1 | refine below_set ?_ GE352.out) | exact HB.out))) : w.heap.size ≤ gb365)); have n5_ := Aside0.mk ((by rw [hg]; exact (below_size (by repeat (first | (with_reducible first | exact HB.out | apply below_alloc | apply pw_below_drewN | apply below_drew1 | refine below_set ?_ GE352.out) | exact HB.out))) : w.heap.size ≤ gb365)); have n6_ := Aside0.mk ((by rw [hg]; exact Nat.ne_of_lt (blk_lt (g := gb352) (o := .cells #[.int .i64 ((rd_T56 l0 x3_1).f0.f0), .int .i64 ((rd_T56 l0 x3_1).f0.f1), .slice A351_2 ((rd_T56 l0 x3_1).f0.f2).length c351_2, .slice A351_3 ((rd_T56 l0 x3_1).f1).length c351_3] 56 (0, 0)) (by (with_reducible repeat (first | refine blk_drewN ?_ _ | refine blk_drew ?_ | refine blk_alloc ?_ _)); exact BK352.out)) : gb352 ≠ gb365)); have n7_ := Aside0.mk ((by rw [hg]; exact Nat.ne_of_gt (blk_lt (g := gb352) (o := .cells #[.int .i64 ((rd_T56 l0 x3_1).f0.f0), .int .i64 ((rd_T56 l0 x3_1).f0.f1), .slice A351_2 ((rd_T56 l0 x3_1).f0.f2).length c351_2, .slice A351_3 ((rd_T56 l0 x3_1).f1).length c351_3] 56 (0, 0)) (by (with_reducible repeat (first | refine blk_drewN ?_ _ | refine blk_drew ?_ | refine blk_alloc ?_ _)); exact BK352.out)) : gb365 ≠ gb352)); clear HO362; clear BK352; clear HB; have HO362 := n0_; have BK352 := n1_; have HB := n2_; have BK365 := n3_; have GW365 := n4_; have GE365 := n5_; have NB352_365 := n6_; have NB365_352 := n7_; clear n0_ n1_ n2_ n3_ n4_ n5_ n6_ n7_; clear hb hbox hg; have hnb67 := NB365_352.out; have hnc67 := NB352_365.out; have hcz68_0 : w66.cell? ⟨gb365, 0, none⟩ = some (.int .i64 0) := (blk_cell BK365.out 0).trans rfl; have hcz68_1 : w66.cell? ⟨gb365, 1, none⟩ = some (.int .i64 0) := (blk_cell BK365.out 1).trans rfl; have hcz68_2 : w66.cell? ⟨gb365, 2, none⟩ = some (.slice none 0 0) := (blk_cell BK365.out 2).trans rfl; have hfz68_0 := blk_frozen BK365.out 0; have hfz68_1 := blk_frozen BK365.out 1; have hfz68_2 := blk_frozen BK365.out 2; obtain ⟨Ao69, co69, eo69⟩ := Kd.R_slice HO362.out; subst eo69) | ((with_reducible refine gate_callee (f := 33) rfl ?_); refine goesL_ (some 67) rfl rfl Try.func33 (by kernel_rfl) rfl #[.int .i64 t364] rfl (by (try simp only [List.map_toArray, List.map_cons, List.map_nil]); first | done | rfl | (simp only [List.length_drop, List.length_take]; rfl)) ?_; (with_reducible refine (gimballaw23_num.calls t364 t366 _ A41.out).mono ?_); rintro e w' ⟨rfl, ⟨nd, rfl⟩⟩; refine ⟨_, rfl, ?_⟩; have hcz70_0 : w66.cell? ⟨gb352, 0, none⟩ = some (.int .i64 ((rd_T56 l0 x3_1).f0.f0)) := (blk_cell BK352.out 0).trans rfl; have hcz70_1 : w66.cell? ⟨gb352, 1, none⟩ = some (.int .i64 ((rd_T56 l0 x3_1).f0.f1)) := (blk_cell BK352.out 1).trans rfl; have hcz70_2 : w66.cell? ⟨gb352, 2, none⟩ = some (.slice A351_2 ((rd_T56 l0 x3_1).f0.f2).length c351_2) := (blk_cell BK352.out 2).trans rfl; have hcz70_3 : w66.cell? ⟨gb352, 3, none⟩ = some (.slice A351_3 ((rd_T56 l0 x3_1).f1).length c351_3) := (blk_cell BK352.out 3).trans rfl; have hfz70_0 := blk_frozen BK352.out 0; have hfz70_1 := blk_frozen BK352.out 1; have hfz70_2 := blk_frozen BK352.out 2; have hfz70_3 := blk_frozen BK352.out 3) | (go_at_call 37; (with_reducible refine (frame_Begins.calls kj21 _ _ ((rd_T56 l0 x3_1).f1) true _ ?side1 ?side2 A43.out).mono ?_); (case side1 => exact Kd.C_below HR351_3.out (by repeat (first | (with_reducible first | exact HB.out | apply below_alloc | apply pw_below_drewN | apply below_drew1 | refine below_set ?_ GE352.out | refine below_set ?_ GE365.out) | exact HB.out))); (case side2 => exact HC351_3.out); rintro e w71 ⟨rfl, hb⟩; have n0_ := Aside0.mk (Kd.R_below (by (with_reducible repeat (first | apply Kd.R_alloc | apply Kd.R_drewN | apply Kd.R_drew)); exact (Kd.R_mono (Kd.R_far (p := ⟨gb365, 2, none⟩) (Kd.R_far (p := ⟨gb365, 1, none⟩) (Kd.R_far (p := ⟨gb365, 0, none⟩) (Kd.R_types HO362.out BK365.out (by decide)) (fun _ hk => hk.2) (.int .i64 t358)) (fun _ hk => hk.2) (.int .i64 t359)) (fun _ hk => hk.2) (.slice Ao69 t360.length co69)) (fun _ h_ => h_.1))) hb); have n1_ := Aside0.mk (blk_below (g := gb352) (o := .cells #[.int .i64 ((rd_T56 l0 x3_1).f0.f0), .int .i64 ((rd_T56 l0 x3_1).f0.f1), .slice A351_2 ((rd_T56 l0 x3_1).f0.f2).length c351_2, .slice A351_3 ((rd_T56 l0 x3_1).f1).length c351_3] 56 (0, 0)) (by (with_reducible repeat (first | refine blk_drewN ?_ _ | refine blk_drew ?_ | refine blk_alloc ?_ _)); refine blk_far ?_ NB352_365.out _; (with_reducible repeat (first | refine blk_drewN ?_ _ | refine blk_drew ?_ | refine blk_alloc ?_ _)); refine blk_far ?_ NB352_365.out _; (with_reducible repeat (first | refine blk_drewN ?_ _ | refine blk_drew ?_ | refine blk_alloc ?_ _)); refine blk_far ?_ NB352_365.out _; (with_reducible repeat (first | refine blk_drewN ?_ _ | refine blk_drew ?_ | refine blk_alloc ?_ _)); exact BK352.out) hb); have n2_ := Aside0.mk (blk_below (g := gb365) (o := .cells #[.int .i64 t358, .int .i64 t359, .slice Ao69 t360.length co69] 54 (0, 0)) (by (with_reducible repeat (first | refine blk_drewN ?_ _ | refine blk_drew ?_ | refine blk_alloc ?_ _)); refine blk_put (cs := #[.int .i64 t358, .int .i64 t359, .slice none 0 0]) ?_ 2 _ rfl; (with_reducible repeat (first | refine blk_drewN ?_ _ | refine blk_drew ?_ | refine blk_alloc ?_ _)); refine blk_put (cs := #[.int .i64 t358, .int .i64 0, .slice none 0 0]) ?_ 1 _ rfl; (with_reducible repeat (first | refine blk_drewN ?_ _ | refine blk_drew ?_ | refine blk_alloc ?_ _)); refine blk_put (cs := #[.int .i64 0, .int .i64 0, .slice none 0 0]) ?_ 0 _ rfl; (with_reducible repeat (first | refine blk_drewN ?_ _ | refine blk_drew ?_ | refine blk_alloc ?_ _)); exact BK365.out) hb); have n3_ := Aside0.mk (below_step (by repeat (first | (with_reducible first | exact HB.out | apply below_alloc | apply pw_below_drewN | apply below_drew1 | refine below_set ?_ GE352.out | refine below_set ?_ GE365.out) | exact HB.out)) hb); clear HO362; clear BK352; clear BK365; clear HB; have HO362 := n0_; have BK352 := n1_; have BK365 := n2_; have HB := n3_; clear n0_ n1_ n2_ n3_; (try clear hb); (try clear hb2); (try clear hk); (try clear hi); have hcz72_0 : w71.cell? ⟨gb352, 0, none⟩ = some (.int .i64 ((rd_T56 l0 x3_1).f0.f0)) := (blk_cell BK352.out 0).trans rfl; have hcz72_1 : w71.cell? ⟨gb352, 1, none⟩ = some (.int .i64 ((rd_T56 l0 x3_1).f0.f1)) := (blk_cell BK352.out 1).trans rfl; have hcz72_2 : w71.cell? ⟨gb352, 2, none⟩ = some (.slice A351_2 ((rd_T56 l0 x3_1).f0.f2).length c351_2) := (blk_cell BK352.out 2).trans rfl; have hcz72_3 : w71.cell? ⟨gb352, 3, none⟩ = some (.slice A351_3 ((rd_T56 l0 x3_1).f1).length c351_3) := (blk_cell BK352.out 3).trans rfl; have hfz72_0 := blk_frozen BK352.out 0; have hfz72_1 := blk_frozen BK352.out 1; have hfz72_2 := blk_frozen BK352.out 2; have hfz72_3 := blk_frozen BK352.out 3))
                                      go_roundg kj21
                                      case measure => have := HK1.out; have := HJ1.out; have := HK3.out; have := HJ21.out; omega
                                      case rel => exact ⟨(wrap64 (x3_1 + 1)), (by first | rfl | (simp; done) | (simp [*]; done)), H', ⟨by have := HK1.out; have := HJ1.out; have := HK3.out; have := HJ21.out; omega⟩, ⟨by repeat (first | (with_reducible first | exact HB.out | apply below_alloc | apply pw_below_drewN | apply below_drew1 | refine below_set ?_ GE352.out | refine below_set ?_ GE365.out) | exact HB.out)⟩⟩
                                · replace c44 := Bool.eq_false_iff.mpr c44
                                  subst c44
                                  have H1 : (some false) = some r := by rw [if_neg (show ¬ (false = true) by decide)] at H; exact H
                                  clear H
                                  have H := H1
                                  clear H1
                                  obtain rfl := Option.some.inj H
                                  have hcz73_0 : wc.cell? ⟨gb352, 0, none⟩ = some (.int .i64 ((rd_T56 l0 x3_1).f0.f0)) := (blk_cell BK352.out 0).trans rfl
                                  have hcz73_1 : wc.cell? ⟨gb352, 1, none⟩ = some (.int .i64 ((rd_T56 l0 x3_1).f0.f1)) := (blk_cell BK352.out 1).trans rfl
                                  have hcz73_2 : wc.cell? ⟨gb352, 2, none⟩ = some (.slice A351_2 ((rd_T56 l0 x3_1).f0.f2).length c351_2) := (blk_cell BK352.out 2).trans rfl
                                  have hcz73_3 : wc.cell? ⟨gb352, 3, none⟩ = some (.slice A351_3 ((rd_T56 l0 x3_1).f1).length c351_3) := (blk_cell BK352.out 3).trans rfl
                                  have hfz73_0 := blk_frozen BK352.out 0
                                  have hfz73_1 := blk_frozen BK352.out 1
                                  have hfz73_2 := blk_frozen BK352.out 2
                                  have hfz73_3 := blk_frozen BK352.out 3
                                  go_wp2_with (first | ((with_reducible refine gate_callee (f := 36) rfl ?_); refine goesL_ (some 62) rfl rfl Try.func36 (by kernel_rfl) rfl #[.slice A351_3 ((rd_T56 l0 x3_1).f1).length c351_3] rfl (by (try simp only [List.map_toArray, List.map_cons, List.map_nil]); first | done | rfl | (simp only [List.length_drop, List.length_take]; rfl)) ?_; (with_reducible refine (frame_Decode.calls kj21 _ _ ((rd_T56 l0 x3_1).f1) t358 t359 t360 t363 t364 _ ?side1 ?side2 A40.out).mono ?_); (case side1 => repeat (first | exact (Kd.C_below HR351_3.out HB.out) | (with_reducible refine Kd.C_alloc ?_ _) | (with_reducible refine Kd.C_drewN ?_ _) | (with_reducible refine Kd.C_drew ?_))); (case side2 => exact HC351_3.out); rintro e w74 ⟨v361, rfl, ho0, hb⟩; refine ⟨_, rfl, ?_⟩; have n0_ := Aside0.mk (Kd.R_lower ho0 (below_size (by repeat (first | (with_reducible first | exact HB.out | apply below_alloc | apply pw_below_drewN | apply below_drew1 | refine below_set ?_ GE352.out) | exact HB.out)))); have n1_ := Aside0.mk (blk_below (g := gb352) (o := .cells #[.int .i64 ((rd_T56 l0 x3_1).f0.f0), .int .i64 ((rd_T56 l0 x3_1).f0.f1), .slice A351_2 ((rd_T56 l0 x3_1).f0.f2).length c351_2, .slice A351_3 ((rd_T56 l0 x3_1).f1).length c351_3] 56 (0, 0)) (by (with_reducible repeat (first | refine blk_drewN ?_ _ | refine blk_drew ?_ | refine blk_alloc ?_ _)); exact BK352.out) hb); have n2_ := Aside0.mk (below_step (by repeat (first | (with_reducible first | exact HB.out | apply below_alloc | apply pw_below_drewN | apply below_drew1 | refine below_set ?_ GE352.out) | exact HB.out)) hb); clear BK352; clear HB; have HO362 := n0_; have BK352 := n1_; have HB := n2_; clear n0_ n1_ n2_; (try clear hb); (try clear hb2); (try clear hk); (try clear hi); (try clear ho0)) | ((with_reducible refine gate_dst (N := 8) rfl ?_); (try (refine gate_guard (by rfl) ?_; dsimp only)); refine box_event ?hg (N := 8) ?hd (cs := #[.int .i64 0, .int .i64 0, .slice none 0 0]) (t := 54) ?hr ?_; (case hd => rfl); (case hg => rfl); (case hr => first | (go_simp; done) | (go_simp; rfl)); intro gb365 hg w75 hbox hb; have n0_ := Aside0.mk (Kd.R_below (by (with_reducible repeat (first | apply Kd.R_alloc | apply Kd.R_drewN | apply Kd.R_drew)); exact HO362.out) hb); have n1_ := Aside0.mk (blk_below (g := gb352) (o := .cells #[.int .i64 ((rd_T56 l0 x3_1).f0.f0), .int .i64 ((rd_T56 l0 x3_1).f0.f1), .slice A351_2 ((rd_T56 l0 x3_1).f0.f2).length c351_2, .slice A351_3 ((rd_T56 l0 x3_1).f1).length c351_3] 56 (0, 0)) (by (with_reducible repeat (first | refine blk_drewN ?_ _ | refine blk_drew ?_ | refine blk_alloc ?_ _)); exact BK352.out) hb); have n2_ := Aside0.mk (below_step (by repeat (first | (with_reducible first | exact HB.out | apply below_alloc | apply pw_below_drewN | apply below_drew1 | refine below_set ?_ GE352.out) | exact HB.out)) hb); have n3_ := Aside0.mk (hbox); have n4_ := Aside0.mk ((by rw [hg]; exact (below_size (by repeat (first | (with_reducible first | exact HB.out | apply below_alloc | apply pw_below_drewN | apply below_drew1 | refine below_set ?_ GE352.out) | exact HB.out))) : w.heap.size ≤ gb365)); have n5_ := Aside0.mk ((by rw [hg]; exact (below_size (by repeat (first | (with_reducible first | exact HB.out | apply below_alloc | apply pw_below_drewN | apply below_drew1 | refine below_set ?_ GE352.out) | exact HB.out))) : w.heap.size ≤ gb365)); have n6_ := Aside0.mk ((by rw [hg]; exact Nat.ne_of_lt (blk_lt (g := gb352) (o := .cells #[.int .i64 ((rd_T56 l0 x3_1).f0.f0), .int .i64 ((rd_T56 l0 x3_1).f0.f1), .slice A351_2 ((rd_T56 l0 x3_1).f0.f2).length c351_2, .slice A351_3 ((rd_T56 l0 x3_1).f1).length c351_3] 56 (0, 0)) (by (with_reducible repeat (first | refine blk_drewN ?_ _ | refine blk_drew ?_ | refine blk_alloc ?_ _)); exact BK352.out)) : gb352 ≠ gb365)); have n7_ := Aside0.mk ((by rw [hg]; exact Nat.ne_of_gt (blk_lt (g := gb352) (o := .cells #[.int .i64 ((rd_T56 l0 x3_1).f0.f0), .int .i64 ((rd_T56 l0 x3_1).f0.f1), .slice A351_2 ((rd_T56 l0 x3_1).f0.f2).length c351_2, .slice A351_3 ((rd_T56 l0 x3_1).f1).length c351_3] 56 (0, 0)) (by (with_reducible repeat (first | refine blk_drewN ?_ _ | refine blk_drew ?_ | refine blk_alloc ?_ _)); exact BK352.out)) : gb365 ≠ gb352)); clear HO362; clear BK352; clear HB; have HO362 := n0_; have BK352 := n1_; have HB := n2_; have BK365 := n3_; have GW365 := n4_; have GE365 := n5_; have NB352_365 := n6_; have NB365_352 := n7_; clear n0_ n1_ n2_ n3_ n4_ n5_ n6_ n7_; clear hb hbox hg; have hnb76 := NB365_352.out; have hnc76 := NB352_365.out; have hcz77_0 : w75.cell? ⟨gb365, 0, none⟩ = some (.int .i64 0) := (blk_cell BK365.out 0).trans rfl; have hcz77_1 : w75.cell? ⟨gb365, 1, none⟩ = some (.int .i64 0) := (blk_cell BK365.out 1).trans rfl; have hcz77_2 : w75.cell? ⟨gb365, 2, none⟩ = some (.slice none 0 0) := (blk_cell BK365.out 2).trans rfl; have hfz77_0 := blk_frozen BK365.out 0; have hfz77_1 := blk_frozen BK365.out 1; have hfz77_2 := blk_frozen BK365.out 2; obtain ⟨Ao78, co78, eo78⟩ := Kd.R_slice HO362.out; subst eo78) | ((with_reducible refine gate_callee (f := 33) rfl ?_); refine goesL_ (some 67) rfl rfl Try.func33 (by kernel_rfl) rfl #[.int .i64 t364] rfl (by (try simp only [List.map_toArray, List.map_cons, List.map_nil]); first | done | rfl | (simp only [List.length_drop, List.length_take]; rfl)) ?_; (with_reducible refine (gimballaw23_num.calls t364 t366 _ A41.out).mono ?_); rintro e w' ⟨rfl, ⟨nd, rfl⟩⟩; refine ⟨_, rfl, ?_⟩; have hcz79_0 : w75.cell? ⟨gb352, 0, none⟩ = some (.int .i64 ((rd_T56 l0 x3_1).f0.f0)) := (blk_cell BK352.out 0).trans rfl; have hcz79_1 : w75.cell? ⟨gb352, 1, none⟩ = some (.int .i64 ((rd_T56 l0 x3_1).f0.f1)) := (blk_cell BK352.out 1).trans rfl; have hcz79_2 : w75.cell? ⟨gb352, 2, none⟩ = some (.slice A351_2 ((rd_T56 l0 x3_1).f0.f2).length c351_2) := (blk_cell BK352.out 2).trans rfl; have hcz79_3 : w75.cell? ⟨gb352, 3, none⟩ = some (.slice A351_3 ((rd_T56 l0 x3_1).f1).length c351_3) := (blk_cell BK352.out 3).trans rfl; have hfz79_0 := blk_frozen BK352.out 0; have hfz79_1 := blk_frozen BK352.out 1; have hfz79_2 := blk_frozen BK352.out 2; have hfz79_3 := blk_frozen BK352.out 3) | (go_at_call 37; (with_reducible refine (frame_Begins.calls kj21 _ _ ((rd_T56 l0 x3_1).f1) false _ ?side1 ?side2 A43.out).mono ?_); (case side1 => exact Kd.C_below HR351_3.out (by repeat (first | (with_reducible first | exact HB.out | apply below_alloc | apply pw_below_drewN | apply below_drew1 | refine below_set ?_ GE352.out | refine below_set ?_ GE365.out) | exact HB.out))); (case side2 => exact HC351_3.out); rintro e w80 ⟨rfl, hb⟩; have n0_ := Aside0.mk (Kd.R_below (by (with_reducible repeat (first | apply Kd.R_alloc | apply Kd.R_drewN | apply Kd.R_drew)); exact (Kd.R_mono (Kd.R_far (p := ⟨gb365, 2, none⟩) (Kd.R_far (p := ⟨gb365, 1, none⟩) (Kd.R_far (p := ⟨gb365, 0, none⟩) (Kd.R_types HO362.out BK365.out (by decide)) (fun _ hk => hk.2) (.int .i64 t358)) (fun _ hk => hk.2) (.int .i64 t359)) (fun _ hk => hk.2) (.slice Ao78 t360.length co78)) (fun _ h_ => h_.1))) hb); have n1_ := Aside0.mk (blk_below (g := gb352) (o := .cells #[.int .i64 ((rd_T56 l0 x3_1).f0.f0), .int .i64 ((rd_T56 l0 x3_1).f0.f1), .slice A351_2 ((rd_T56 l0 x3_1).f0.f2).length c351_2, .slice A351_3 ((rd_T56 l0 x3_1).f1).length c351_3] 56 (0, 0)) (by (with_reducible repeat (first | refine blk_drewN ?_ _ | refine blk_drew ?_ | refine blk_alloc ?_ _)); refine blk_far ?_ NB352_365.out _; (with_reducible repeat (first | refine blk_drewN ?_ _ | refine blk_drew ?_ | refine blk_alloc ?_ _)); refine blk_far ?_ NB352_365.out _; (with_reducible repeat (first | refine blk_drewN ?_ _ | refine blk_drew ?_ | refine blk_alloc ?_ _)); refine blk_far ?_ NB352_365.out _; (with_reducible repeat (first | refine blk_drewN ?_ _ | refine blk_drew ?_ | refine blk_alloc ?_ _)); exact BK352.out) hb); have n2_ := Aside0.mk (blk_below (g := gb365) (o := .cells #[.int .i64 t358, .int .i64 t359, .slice Ao78 t360.length co78] 54 (0, 0)) (by (with_reducible repeat (first | refine blk_drewN ?_ _ | refine blk_drew ?_ | refine blk_alloc ?_ _)); refine blk_put (cs := #[.int .i64 t358, .int .i64 t359, .slice none 0 0]) ?_ 2 _ rfl; (with_reducible repeat (first | refine blk_drewN ?_ _ | refine blk_drew ?_ | refine blk_alloc ?_ _)); refine blk_put (cs := #[.int .i64 t358, .int .i64 0, .slice none 0 0]) ?_ 1 _ rfl; (with_reducible repeat (first | refine blk_drewN ?_ _ | refine blk_drew ?_ | refine blk_alloc ?_ _)); refine blk_put (cs := #[.int .i64 0, .int .i64 0, .slice none 0 0]) ?_ 0 _ rfl; (with_reducible repeat (first | refine blk_drewN ?_ _ | refine blk_drew ?_ | refine blk_alloc ?_ _)); exact BK365.out) hb); have n3_ := Aside0.mk (below_step (by repeat (first | (with_reducible first | exact HB.out | apply below_alloc | apply pw_below_drewN | apply below_drew1 | refine below_set ?_ GE352.out | refine below_set ?_ GE365.out) | exact HB.out)) hb); clear HO362; clear BK352; clear BK365; clear HB; have HO362 := n0_; have BK352 := n1_; have BK365 := n2_; have HB := n3_; clear n0_ n1_ n2_ n3_; (try clear hb); (try clear hb2); (try clear hk); (try clear hi)))
                                  go_ret
                                  exact ⟨by first | rfl | (simp [errW_none, errW_some] <;> rfl) | (simp [*, errW_none, errW_some] <;> rfl), by repeat (first | (with_reducible first | exact HB.out | apply below_alloc | apply pw_below_drewN | apply below_drew1 | refine below_set ?_ GE352.out | refine below_set ?_ GE365.out) | exact HB.out)⟩
                              · rw [if_neg c42] at H
                                have c42b0 : (t366 == 0) = false := beq_eq_false_iff_ne.mpr c42
                                have c42b1 : (t366 != 0) = true := bne_iff_ne.mpr c42
                                have H' := Aside0.mk H
                                clear H
                                have hcz81_0 : wc.cell? ⟨gb352, 0, none⟩ = some (.int .i64 ((rd_T56 l0 x3_1).f0.f0)) := (blk_cell BK352.out 0).trans rfl
                                have hcz81_1 : wc.cell? ⟨gb352, 1, none⟩ = some (.int .i64 ((rd_T56 l0 x3_1).f0.f1)) := (blk_cell BK352.out 1).trans rfl
                                have hcz81_2 : wc.cell? ⟨gb352, 2, none⟩ = some (.slice A351_2 ((rd_T56 l0 x3_1).f0.f2).length c351_2) := (blk_cell BK352.out 2).trans rfl
                                have hcz81_3 : wc.cell? ⟨gb352, 3, none⟩ = some (.slice A351_3 ((rd_T56 l0 x3_1).f1).length c351_3) := (blk_cell BK352.out 3).trans rfl
                                have hfz81_0 := blk_frozen BK352.out 0
                                have hfz81_1 := blk_frozen BK352.out 1
                                have hfz81_2 := blk_frozen BK352.out 2
                                have hfz81_3 := blk_frozen BK352.out 3
                                go_wp2_with (first | ((with_reducible refine gate_callee (f := 36) rfl ?_); refine goesL_ (some 62) rfl rfl Try.func36 (by kernel_rfl) rfl #[.slice A351_3 ((rd_T56 l0 x3_1).f1).length c351_3] rfl (by (try simp only [List.map_toArray, List.map_cons, List.map_nil]); first | done | rfl | (simp only [List.length_drop, List.length_take]; rfl)) ?_; (with_reducible refine (frame_Decode.calls kj21 _ _ ((rd_T56 l0 x3_1).f1) t358 t359 t360 t363 t364 _ ?side1 ?side2 A40.out).mono ?_); (case side1 => repeat (first | exact (Kd.C_below HR351_3.out HB.out) | (with_reducible refine Kd.C_alloc ?_ _) | (with_reducible refine Kd.C_drewN ?_ _) | (with_reducible refine Kd.C_drew ?_))); (case side2 => exact HC351_3.out); rintro e w82 ⟨v361, rfl, ho0, hb⟩; refine ⟨_, rfl, ?_⟩; have n0_ := Aside0.mk (Kd.R_lower ho0 (below_size (by repeat (first | (with_reducible first | exact HB.out | apply below_alloc | apply pw_below_drewN | apply below_drew1 | refine below_set ?_ GE352.out) | exact HB.out)))); have n1_ := Aside0.mk (blk_below (g := gb352) (o := .cells #[.int .i64 ((rd_T56 l0 x3_1).f0.f0), .int .i64 ((rd_T56 l0 x3_1).f0.f1), .slice A351_2 ((rd_T56 l0 x3_1).f0.f2).length c351_2, .slice A351_3 ((rd_T56 l0 x3_1).f1).length c351_3] 56 (0, 0)) (by (with_reducible repeat (first | refine blk_drewN ?_ _ | refine blk_drew ?_ | refine blk_alloc ?_ _)); exact BK352.out) hb); have n2_ := Aside0.mk (below_step (by repeat (first | (with_reducible first | exact HB.out | apply below_alloc | apply pw_below_drewN | apply below_drew1 | refine below_set ?_ GE352.out) | exact HB.out)) hb); clear BK352; clear HB; have HO362 := n0_; have BK352 := n1_; have HB := n2_; clear n0_ n1_ n2_; (try clear hb); (try clear hb2); (try clear hk); (try clear hi); (try clear ho0)) | ((with_reducible refine gate_dst (N := 8) rfl ?_); (try (refine gate_guard (by rfl) ?_; dsimp only)); refine box_event ?hg (N := 8) ?hd (cs := #[.int .i64 0, .int .i64 0, .slice none 0 0]) (t := 54) ?hr ?_; (case hd => rfl); (case hg => rfl); (case hr => first | (go_simp; done) | (go_simp; rfl)); intro gb365 hg w83 hbox hb; have n0_ := Aside0.mk (Kd.R_below (by (with_reducible repeat (first | apply Kd.R_alloc | apply Kd.R_drewN | apply Kd.R_drew)); exact HO362.out) hb); have n1_ := Aside0.mk (blk_below (g := gb352) (o := .cells #[.int .i64 ((rd_T56 l0 x3_1).f0.f0), .int .i64 ((rd_T56 l0 x3_1).f0.f1), .slice A351_2 ((rd_T56 l0 x3_1).f0.f2).length c351_2, .slice A351_3 ((rd_T56 l0 x3_1).f1).length c351_3] 56 (0, 0)) (by (with_reducible repeat (first | refine blk_drewN ?_ _ | refine blk_drew ?_ | refine blk_alloc ?_ _)); exact BK352.out) hb); have n2_ := Aside0.mk (below_step (by repeat (first | (with_reducible first | exact HB.out | apply below_alloc | apply pw_below_drewN | apply below_drew1 | refine below_set ?_ GE352.out) | exact HB.out)) hb); have n3_ := Aside0.mk (hbox); have n4_ := Aside0.mk ((by rw [hg]; exact (below_size (by repeat (first | (with_reducible first | exact HB.out | apply below_alloc | apply pw_below_drewN | apply below_drew1 | refine below_set ?_ GE352.out) | exact HB.out))) : w.heap.size ≤ gb365)); have n5_ := Aside0.mk ((by rw [hg]; exact (below_size (by repeat (first | (with_reducible first | exact HB.out | apply below_alloc | apply pw_below_drewN | apply below_drew1 | refine below_set ?_ GE352.out) | exact HB.out))) : w.heap.size ≤ gb365)); have n6_ := Aside0.mk ((by rw [hg]; exact Nat.ne_of_lt (blk_lt (g := gb352) (o := .cells #[.int .i64 ((rd_T56 l0 x3_1).f0.f0), .int .i64 ((rd_T56 l0 x3_1).f0.f1), .slice A351_2 ((rd_T56 l0 x3_1).f0.f2).length c351_2, .slice A351_3 ((rd_T56 l0 x3_1).f1).length c351_3] 56 (0, 0)) (by (with_reducible repeat (first | refine blk_drewN ?_ _ | refine blk_drew ?_ | refine blk_alloc ?_ _)); exact BK352.out)) : gb352 ≠ gb365)); have n7_ := Aside0.mk ((by rw [hg]; exact Nat.ne_of_gt (blk_lt (g := gb352) (o := .cells #[.int .i64 ((rd_T56 l0 x3_1).f0.f0), .int .i64 ((rd_T56 l0 x3_1).f0.f1), .slice A351_2 ((rd_T56 l0 x3_1).f0.f2).length c351_2, .slice A351_3 ((rd_T56 l0 x3_1).f1).length c351_3] 56 (0, 0)) (by (with_reducible repeat (first | refine blk_drewN ?_ _ | refine blk_drew ?_ | refine blk_alloc ?_ _)); exact BK352.out)) : gb365 ≠ gb352)); clear HO362; clear BK352; clear HB; have HO362 := n0_; have BK352 := n1_; have HB := n2_; have BK365 := n3_; have GW365 := n4_; have GE365 := n5_; have NB352_365 := n6_; have NB365_352 := n7_; clear n0_ n1_ n2_ n3_ n4_ n5_ n6_ n7_; clear hb hbox hg; have hnb84 := NB365_352.out; have hnc84 := NB352_365.out; have hcz85_0 : w83.cell? ⟨gb365, 0, none⟩ = some (.int .i64 0) := (blk_cell BK365.out 0).trans rfl; have hcz85_1 : w83.cell? ⟨gb365, 1, none⟩ = some (.int .i64 0) := (blk_cell BK365.out 1).trans rfl; have hcz85_2 : w83.cell? ⟨gb365, 2, none⟩ = some (.slice none 0 0) := (blk_cell BK365.out 2).trans rfl; have hfz85_0 := blk_frozen BK365.out 0; have hfz85_1 := blk_frozen BK365.out 1; have hfz85_2 := blk_frozen BK365.out 2; obtain ⟨Ao86, co86, eo86⟩ := Kd.R_slice HO362.out; subst eo86) | ((with_reducible refine gate_callee (f := 33) rfl ?_); refine goesL_ (some 67) rfl rfl Try.func33 (by kernel_rfl) rfl #[.int .i64 t364] rfl (by (try simp only [List.map_toArray, List.map_cons, List.map_nil]); first | done | rfl | (simp only [List.length_drop, List.length_take]; rfl)) ?_; (with_reducible refine (gimballaw23_num.calls t364 t366 _ A41.out).mono ?_); rintro e w' ⟨rfl, ⟨nd, rfl⟩⟩; refine ⟨_, rfl, ?_⟩))
                                go_roundg kj21
                                case measure => have := HK1.out; have := HJ1.out; have := HK3.out; have := HJ21.out; omega
                                case rel => exact ⟨(wrap64 (x3_1 + 1)), (by first | rfl | (simp; done) | (simp [*]; done)), H', ⟨by have := HK1.out; have := HJ1.out; have := HK3.out; have := HJ21.out; omega⟩, ⟨by repeat (first | (with_reducible first | exact HB.out | apply below_alloc | apply pw_below_drewN | apply below_drew1 | refine below_set ?_ GE352.out | refine below_set ?_ GE365.out) | exact HB.out)⟩⟩
                  · replace c13 := Bool.eq_false_iff.mpr c13
                    subst c13
                    have H1 : (some false) = some r := by rw [if_neg (show ¬ (false = true) by decide)] at H; exact H
                    clear H
                    have H := H1
                    clear H1
                    obtain rfl := Option.some.inj H
                    have p351 : 0 ≤ (x3_1 : Int) := of_decide_eq_true (by first | (with_reducible assumption) | assumption)
                    have q351 : x3_1 < (l0.length : Int) := of_decide_eq_true (by first | (with_reducible assumption) | assumption)
                    obtain ⟨ad351, A351_2, c351_2, A351_3, c351_3, e351, hx351_0, hx351_1, hx351_2, hx351_3, hl351_2, hi351_2, hl351_3, hi351_3⟩ := at_T56 HR0.out x3_1 p351 q351
                    cases e351
                    replace hx351_0 := (HB.out.cell (World.block_lt_of_cell? w _ hx351_0)).trans hx351_0
                    replace hx351_1 := (HB.out.cell (World.block_lt_of_cell? w _ hx351_1)).trans hx351_1
                    replace hx351_2 := (HB.out.cell (World.block_lt_of_cell? w _ hx351_2)).trans hx351_2
                    replace hx351_3 := (HB.out.cell (World.block_lt_of_cell? w _ hx351_3)).trans hx351_3
                    have HR351_2 := Aside0.mk hi351_2
                    have HC351_2 := Aside0.mk hl351_2
                    clear hi351_2 hl351_2
                    have HR351_3 := Aside0.mk hi351_3
                    have HC351_3 := Aside0.mk hl351_3
                    clear hi351_3 hl351_3
                    replace p351 := eq_true p351
                    replace q351 := eq_true q351
                    go_wp2_with (first | ((with_reducible refine gate_dst (N := 4) rfl ?_); (try (refine gate_guard (by rfl) ?_; dsimp only)); refine box_event ?hg (N := 4) ?hd (cs := #[.int .i64 0, .int .i64 0, .slice none 0 0, .slice none 0 0]) (t := 56) ?hr ?_; (case hd => rfl); (case hg => rfl); (case hr => first | (go_simp; done) | (go_simp; rfl)); intro gb352 hg w87 hbox hb; have n0_ := Aside0.mk (below_step (by repeat (first | (with_reducible first | exact HB.out | apply below_alloc | apply pw_below_drewN | apply below_drew1) | exact HB.out)) hb); have n1_ := Aside0.mk (hbox); have n2_ := Aside0.mk ((by rw [hg]; exact (below_size (by repeat (first | (with_reducible first | exact HB.out | apply below_alloc | apply pw_below_drewN | apply below_drew1) | exact HB.out))) : w.heap.size ≤ gb352)); have n3_ := Aside0.mk ((by rw [hg]; exact (below_size (by repeat (first | (with_reducible first | exact HB.out | apply below_alloc | apply pw_below_drewN | apply below_drew1) | exact HB.out))) : w.heap.size ≤ gb352)); clear HB; have HB := n0_; have BK352 := n1_; have GW352 := n2_; have GE352 := n3_; clear n0_ n1_ n2_ n3_; clear hb hbox hg; have hcz88_0 : w87.cell? ⟨gb352, 0, none⟩ = some (.int .i64 0) := (blk_cell BK352.out 0).trans rfl; have hcz88_1 : w87.cell? ⟨gb352, 1, none⟩ = some (.int .i64 0) := (blk_cell BK352.out 1).trans rfl; have hcz88_2 : w87.cell? ⟨gb352, 2, none⟩ = some (.slice none 0 0) := (blk_cell BK352.out 2).trans rfl; have hcz88_3 : w87.cell? ⟨gb352, 3, none⟩ = some (.slice none 0 0) := (blk_cell BK352.out 3).trans rfl; have hfz88_0 := blk_frozen BK352.out 0; have hfz88_1 := blk_frozen BK352.out 1; have hfz88_2 := blk_frozen BK352.out 2; have hfz88_3 := blk_frozen BK352.out 3) | ((with_reducible refine gate_callee (f := 28) rfl ?_); refine goesL_ (some 26) rfl rfl Try.func28 (by kernel_rfl) rfl #[.agg #[.int .i64 ((rd_T56 l0 x3_1).f0.f0), .int .i64 ((rd_T56 l0 x3_1).f0.f1), .slice A351_2 ((rd_T56 l0 x3_1).f0.f2).length c351_2, .slice A351_3 ((rd_T56 l0 x3_1).f1).length c351_3]] rfl (by (try simp only [List.map_toArray, List.map_cons, List.map_nil]); first | done | rfl | (simp only [List.length_drop, List.length_take]; rfl)) ?_; (with_reducible refine (gimballaw23_heavy.calls ((rd_T56 l0 x3_1).f0.f0) ((rd_T56 l0 x3_1).f0.f1) _ _ ((rd_T56 l0 x3_1).f0.f2) _ _ ((rd_T56 l0 x3_1).f1) false _ ?side1 ?side2 ?side3 ?side4 A7.out).mono ?_); (case side1 => exact Kd.C_below HR351_2.out (by repeat (first | (with_reducible first | exact HB.out | apply below_alloc | apply pw_below_drewN | apply below_drew1 | refine below_set ?_ GE352.out) | exact HB.out))); (case side2 => exact HC351_2.out); (case side3 => exact Kd.C_below HR351_3.out (by repeat (first | (with_reducible first | exact HB.out | apply below_alloc | apply pw_below_drewN | apply below_drew1 | refine below_set ?_ GE352.out) | exact HB.out))); (case side4 => exact HC351_3.out); rintro e w89 ⟨rfl, hb⟩; refine ⟨_, rfl, ?_⟩; have n0_ := Aside0.mk (blk_below (g := gb352) (o := .cells #[.int .i64 ((rd_T56 l0 x3_1).f0.f0), .int .i64 ((rd_T56 l0 x3_1).f0.f1), .slice A351_2 ((rd_T56 l0 x3_1).f0.f2).length c351_2, .slice A351_3 ((rd_T56 l0 x3_1).f1).length c351_3] 56 (0, 0)) (by (with_reducible repeat (first | refine blk_drewN ?_ _ | refine blk_drew ?_ | refine blk_alloc ?_ _)); refine blk_put (cs := #[.int .i64 ((rd_T56 l0 x3_1).f0.f0), .int .i64 ((rd_T56 l0 x3_1).f0.f1), .slice A351_2 ((rd_T56 l0 x3_1).f0.f2).length c351_2, .slice none 0 0]) ?_ 3 _ rfl; (with_reducible repeat (first | refine blk_drewN ?_ _ | refine blk_drew ?_ | refine blk_alloc ?_ _)); refine blk_put (cs := #[.int .i64 ((rd_T56 l0 x3_1).f0.f0), .int .i64 ((rd_T56 l0 x3_1).f0.f1), .slice none 0 0, .slice none 0 0]) ?_ 2 _ rfl; (with_reducible repeat (first | refine blk_drewN ?_ _ | refine blk_drew ?_ | refine blk_alloc ?_ _)); refine blk_put (cs := #[.int .i64 ((rd_T56 l0 x3_1).f0.f0), .int .i64 0, .slice none 0 0, .slice none 0 0]) ?_ 1 _ rfl; (with_reducible repeat (first | refine blk_drewN ?_ _ | refine blk_drew ?_ | refine blk_alloc ?_ _)); refine blk_put (cs := #[.int .i64 0, .int .i64 0, .slice none 0 0, .slice none 0 0]) ?_ 0 _ rfl; (with_reducible repeat (first | refine blk_drewN ?_ _ | refine blk_drew ?_ | refine blk_alloc ?_ _)); exact BK352.out) hb); have n1_ := Aside0.mk (below_step (by repeat (first | (with_reducible first | exact HB.out | apply below_alloc | apply pw_below_drewN | apply below_drew1 | refine below_set ?_ GE352.out) | exact HB.out)) hb); clear BK352; clear HB; have BK352 := n0_; have HB := n1_; clear n0_ n1_; (try clear hb); (try clear hb2); (try clear hk); (try clear hi)) | ((with_reducible refine gate_callee (f := 37) rfl ?_); refine goesL_ (some 27) rfl rfl Try.func37 (by kernel_rfl) rfl #[.slice none 0 0] rfl (by (try simp only [List.map_toArray, List.map_cons, List.map_nil]); first | done | rfl | (simp only [List.length_drop, List.length_take]; rfl)) ?_; (refine (frame_Begins.calls kj1 _ _ ([] : List Int) false _ ?side1 ?side2 A12.out).mono ?_); (case side1 => exact Kd.C_nil _ _); (case side2 => exact Nat.le_refl _); rintro e w90 ⟨rfl, hb⟩; refine ⟨_, rfl, ?_⟩; have n0_ := Aside0.mk (blk_below (g := gb352) (o := .cells #[.int .i64 ((rd_T56 l0 x3_1).f0.f0), .int .i64 ((rd_T56 l0 x3_1).f0.f1), .slice A351_2 ((rd_T56 l0 x3_1).f0.f2).length c351_2, .slice A351_3 ((rd_T56 l0 x3_1).f1).length c351_3] 56 (0, 0)) (by (with_reducible repeat (first | refine blk_drewN ?_ _ | refine blk_drew ?_ | refine blk_alloc ?_ _)); exact BK352.out) hb); have n1_ := Aside0.mk (below_step (by repeat (first | (with_reducible first | exact HB.out | apply below_alloc | apply pw_below_drewN | apply below_drew1 | refine below_set ?_ GE352.out) | exact HB.out)) hb); clear BK352; clear HB; have BK352 := n0_; have HB := n1_; clear n0_ n1_; (try clear hb); (try clear hb2); (try clear hk); (try clear hi)))
                    go_ret
                    exact ⟨by first | rfl | (simp [errW_none, errW_some] <;> rfl) | (simp [*, errW_none, errW_some] <;> rfl), by repeat (first | (with_reducible first | exact HB.out | apply below_alloc | apply pw_below_drewN | apply below_drew1 | refine below_set ?_ GE352.out) | exact HB.out)⟩
              · rw [if_neg c6] at H
                exact absurd H (by simp)
            · rw [if_neg c5] at H
              exact absurd H (by simp)
          · replace c4 := Bool.eq_false_iff.mpr c4
            subst c4
            have H1 : ((gimballaw23_wakes.f kj1).bind fun t350 => (some t350)) = some r := by rw [if_neg (show ¬ (false = true) by decide)] at H; exact H
            clear H
            have H := H1
            clear H1
            replace H := Option.bind_eq_some_iff.mp H
            obtain ⟨t350, A910, H⟩ := H
            replace H : (some t350) = some r := H
            have A91 := Aside0.mk A910
            clear A910
            obtain rfl := Option.some.inj H
            go_wp2_with (first | ((with_reducible refine gate_callee (f := 39) rfl ?_); refine goesL_ (some 86) rfl rfl Try.func39 (by kernel_rfl) rfl #[] rfl (by (try simp only [List.map_toArray, List.map_cons, List.map_nil]); first | done | rfl | (simp only [List.length_drop, List.length_take]; rfl)) ?_; (with_reducible refine (gimballaw23_wakes.calls kj1  t350 _ A91.out).mono ?_); rintro e w92 ⟨rfl, hb⟩; refine ⟨_, rfl, ?_⟩; have n0_ := Aside0.mk (below_step (by repeat (first | (with_reducible first | exact HB.out | apply below_alloc | apply pw_below_drewN | apply below_drew1) | exact HB.out)) hb); clear HB; have HB := n0_; clear n0_; (try clear hb); (try clear hb2); (try clear hk); (try clear hi)))
            go_ret
            exact ⟨by first | rfl | (simp [errW_none, errW_some] <;> rfl) | (simp [*, errW_none, errW_some] <;> rfl), by repeat (first | (with_reducible first | exact HB.out | apply below_alloc | apply pw_below_drewN | apply below_drew1) | exact HB.out)⟩

end Go.Proofs.Ytaeabemipnbgbaa.QFr
