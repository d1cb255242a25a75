/- The law FxClamps over numbers and lists. -/
import Derived.Test.YthokdnheijnmmaaGFxClamps
set_option linter.unusedVariables false
set_option linter.unusedSimpArgs false
namespace Go.Proofs.Ythokdnheijnmmaa.fxClamps
open Go.RowKit Go.Proofs.Ythokdnheijnmmaa.QFx1 Go.Proofs.YthokdnheijnmmaaW.PrintWords Go.Proofs.YthokdnheijnmmaaW.PrintMore Go.Proofs.YthokdnheijnmmaaW.Aid
open Go.Proofs.Ythokdnheijnmmaa.FxWalk
theorem wakes_ev : Ev (fun _ => gimballaw1_wakes.f) true := Ev.pure (fun _ => by decide +kernel)
theorem good_f (x : Int) : fx_Good.f x = some (wd x) := by
  unfold fx_Good.f wd
  by_cases h : -35184372088832 < x
  · rw [if_pos h, decide_eq_true h]; rfl
  · rw [if_neg h, decide_eq_false h]; rfl
theorem all_l0 (l : List Int) (hn : l.length ≤ 1000) : ∀ (d : Nat) (i : Nat), l.length - i ≤ d → i ≤ l.length → Ev (fun k => fx_All.l0 k l (l.length : Int) (i : Int)) (allw (l.drop i)) := by
  intro d
  induction d with
  | zero =>
    intro i h1 h2
    have : i = l.length := by omega
    subst this
    refine Ev.shift ?_
    simp only [fx_All.l0, if_neg (show ¬ (l.length : Int) < (l.length : Int) by omega)]
    rw [List.drop_length]
    exact Ev.pure fun _ => rfl
  | succ d ih =>
    intro i h1 h2
    by_cases hi : i < l.length
    · refine Ev.shift ?_
      have g1 : (i : Int) < (l.length : Int) := by omega
      have g2 : (0 : Int) ≤ (i : Int) := by omega
      have w1 : wrap64 ((i : Int) + 1) = ((i + 1 : Nat) : Int) := by rw [wrap64_id (by omega) (by omega)]; omega
      obtain ⟨hj, e⟩ := rd_at (l := l) (i := (i : Int)) g2 g1
      have e' : rd l (i : Int) = l[i] := by rw [e]; simp
      simp only [fx_All.l0, g1, g2, if_true, good_f, Option.bind_some, w1]
      rw [List.drop_eq_getElem_cons hi, allw, e']
      cases wd l[i] with
      | false => exact Ev.pure fun _ => rfl
      | true => simpa using ih (i + 1) (by omega) (by omega)
    · exact ih i (by omega) h2
theorem all_ev (l : List Int) (hn : l.length ≤ 1000) : Ev (fun k => fx_All.f k l) (allw l) := by
  have := all_l0 l hn l.length 0 (by omega) (by omega)
  simpa [fx_All.f] using this
def clampR (a lo hi : Int) : Int × Int := if allw [a, lo, hi] = true ∧ lo ≤ hi then (mx lo (mn a hi), 0) else (0, 1)
theorem clamp_ev (a lo hi : Int) : Ev (fun k => fx_Clamp.f k a lo hi) (clampR a lo hi) := by
  unfold fx_Clamp.f clampR
  refine Ev.bind (all_ev _ (by simp)) ?_
  cases allw [a, lo, hi] with
  | false => exact Ev.pure fun _ => rfl
  | true =>
    refine Ev.pure fun _ => ?_
    by_cases h : lo ≤ hi
    · simp [h, show ¬ lo > hi by omega]
    · simp [h, show lo > hi by omega]
theorem mx_mn (a lo hi : Int) (h : lo ≤ hi) : lo ≤ mx lo (mn a hi) ∧ mx lo (mn a hi) ≤ hi ∧ (mx lo (mn a hi) = a ∨ mx lo (mn a hi) = lo ∨ mx lo (mn a hi) = hi) ∧ (lo ≤ a → a ≤ hi → mx lo (mn a hi) = a) := by
  unfold mx mn
  split <;> split <;> omega

theorem l0_ev (l : List S24) (hg : ∀ x ∈ l, G24 x) (hn : l.length * 48 ≤ 140737488351232) (d : Nat) : ∀ i : Int, 0 ≤ i → (l.length : Int) - i ≤ d → i ≤ l.length → Ev (fun k => gimballaw1_FxClamps.l0 k l i) true := by
  have fin : ∀ i, Ev (fun k => gimballaw1_FxClamps.j1 k l i false) true := by
    intro i
    refine Ev.shift ?_
    simp only [gimballaw1_FxClamps.j1, Bool.false_eq_true, if_false]
    exact Ev.bind wakes_ev (Ev.pure fun _ => rfl)
  induction d with
  | zero =>
    intro i h0 h1 h2
    refine Ev.shift ?_
    simp only [gimballaw1_FxClamps.l0, if_neg (show ¬ i < (l.length : Int) by omega)]
    exact fin i
  | succ d ih =>
    intro i h0 h1 h2
    refine Ev.shift ?_
    simp only [gimballaw1_FxClamps.l0]
    by_cases hl : i < (l.length : Int)
    · simp only [hl, if_true]
      by_cases hc : i < 30
      · rw [decide_eq_true hc]
        have w1 : wrap64 (i + 1) = i + 1 := wrap64_id (by omega) (by omega)
        have next := ih (i + 1) (by omega) (by omega) (by omega)
        refine Ev.shift ?_
        have hx : G24 (rd_T24 l i) := hg _ (getD_mem z24 h0 hl)
        simp only [gimballaw1_FxClamps.j1, if_true, h0, hl]
        generalize rd_T24 l i = x at *
        refine Ev.bind (clamp_ev _ _ _) ?_
        simp only [gimballaw1_num.f, Option.bind_some, w1]
        by_cases hok : allw [x.f0, x.f4, x.f5] = true ∧ x.f4 ≤ x.f5
        · have e : clampR x.f0 x.f4 x.f5 = (mx x.f4 (mn x.f0 x.f5), 0) := by unfold clampR; rw [if_pos hok]
          obtain ⟨m1, m2, m3, m4⟩ := mx_mn x.f0 x.f4 x.f5 hok.2
          simp only [e, if_true]
          generalize mx x.f4 (mn x.f0 x.f5) = v at *
          have hv : allw [v, x.f4, x.f5] = true := by
            obtain ⟨h1, h2⟩ := hok
            simp only [allw, Bool.and_true, Bool.and_eq_true] at h1 ⊢
            refine ⟨?_, h1.2⟩
            rcases m3 with r | r | r <;> rw [r]
            · exact h1.1
            · exact h1.2.1
            · exact h1.2.2
          refine Ev.bind (clamp_ev _ _ _) ?_
          have e2 : clampR v x.f4 x.f5 = (v, 0) := by
            unfold clampR
            rw [if_pos ⟨hv, hok.2⟩]
            have := (mx_mn v x.f4 x.f5 hok.2).2.2.2 m1 m2
            rw [this]
          simp only [e2, if_neg (show ¬ v < x.f4 by omega), if_neg (show ¬ v > x.f5 by omega), if_true]
          by_cases c1 : x.f0 ≥ x.f4
          · by_cases c2 : x.f0 ≤ x.f5
            · simp only [c1, c2, if_true, m4 c1 c2]
              exact next
            · simp only [c1, c2, if_true, if_false]
              exact next
          · simp only [c1, if_false]
            exact next
        · have e : clampR x.f0 x.f4 x.f5 = (0, 1) := by unfold clampR; rw [if_neg hok]
          simp only [e, if_neg (show ¬ (1 : Int) = 0 by omega)]
          exact next
      · rw [decide_eq_false hc]
        exact fin i
    · simp only [hl, if_false]
      exact fin i

theorem pure : Pure := by
  intro l h
  exact Ev.rounds (l0_ev l h.2 h.1 l.length 0 (by omega) (by omega) (by omega))
end Go.Proofs.Ythokdnheijnmmaa.fxClamps
