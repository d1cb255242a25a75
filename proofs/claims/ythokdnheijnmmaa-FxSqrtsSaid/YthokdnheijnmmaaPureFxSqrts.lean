/- The law FxSqrts over numbers and lists. -/
import Derived.Test.YthokdnheijnmmaaGFxSqrts
set_option linter.unusedVariables false
set_option linter.unusedSimpArgs false
namespace Go.Proofs.Ythokdnheijnmmaa.fxSqrts
open Go.RowKit Go.Proofs.Ythokdnheijnmmaa.QFxS Go.Proofs.YthokdnheijnmmaaW.PrintWords Go.Proofs.YthokdnheijnmmaaW.PrintMore Go.Proofs.YthokdnheijnmmaaW.Aid
open Go.Proofs.Ythokdnheijnmmaa.FxWalk Go.Proofs.Ythokdnheijnmmaa.Wh
theorem wakes_ev : Ev (fun _ => gimballaw1_wakes.f) true := Ev.pure (fun _ => by decide +kernel)
theorem may_f (x : Int) : gimbalref1_May.f x = some (wd x) := by
  unfold gimbalref1_May.f wd
  by_cases h : -35184372088832 < x
  · rw [if_pos h, decide_eq_true h]; rfl
  · rw [if_neg h, decide_eq_false h]; rfl
theorem sq_word {a : Int} (hw : wd a = true) (h0 : 0 ≤ a) : sqrtR a = (isq a, 0) ∧ 0 ≤ isq a ∧ isq a ≤ 8388608 ∧ isq a * isq a ≤ a ∧ a < (isq a + 1) * (isq a + 1) := by
  obtain ⟨h1, h2, h3⟩ := isq_spec h0
  have hb := (wd_iff.1 hw).2
  have h4 := sq_lt (a := isq a) (b := 8388609) h1 (by decide) (by omega)
  have e : sqrtR a = toldR (isq a) := by unfold sqrtR; rw [if_pos ⟨hw, h0⟩]
  refine ⟨?_, h1, by omega, h2, h3⟩
  rw [e]
  unfold toldR
  rw [if_pos (wd_iff.2 (by omega))]

theorem l0_ev (l : List S24) (hg : ∀ x ∈ l, G24 x) (hn : l.length * 48 ≤ 140737488351232) (d : Nat) : ∀ i : Int, 0 ≤ i → (l.length : Int) - i ≤ d → i ≤ l.length → Ev (fun k => gimballaw1_FxSqrts.l0 k l i) true := by
  have fin : ∀ i, Ev (fun k => gimballaw1_FxSqrts.j1 k l i false) true := by
    intro i
    refine Ev.shift ?_
    simp only [gimballaw1_FxSqrts.j1, Bool.false_eq_true, if_false]
    exact Ev.bind wakes_ev (Ev.pure fun _ => rfl)
  induction d with
  | zero =>
    intro i h0 h1 h2
    refine Ev.shift ?_
    simp only [gimballaw1_FxSqrts.l0, if_neg (show ¬ i < (l.length : Int) by omega)]
    exact fin i
  | succ d ih =>
    intro i h0 h1 h2
    refine Ev.shift ?_
    simp only [gimballaw1_FxSqrts.l0]
    by_cases hl : i < (l.length : Int)
    · simp only [hl, if_true]
      by_cases hc : i < 30
      · rw [decide_eq_true hc]
        have w1 : wrap64 (i + 1) = i + 1 := wrap64_id (by omega) (by omega)
        have next := ih (i + 1) (by omega) (by omega) (by omega)
        refine Ev.shift ?_
        simp only [gimballaw1_FxSqrts.j1, if_true, h0, hl]
        generalize (rd_T24 l i).f0 = a at *
        simp only [fx_Sqrt.f, may_f, Option.bind_some]
        have bad : ¬ (wd a = true ∧ 0 ≤ a) → Ev (fun k => gimballaw1_FxSqrts.j2 k l i a (sqrtR a).1 (sqrtR a).2 true) true := by
          intro hb
          have e : sqrtR a = (0, 1) := by unfold sqrtR; rw [if_neg hb]
          rw [e]
          refine Ev.shift ?_
          simp only [gimballaw1_FxSqrts.j2, if_true, gimballaw1_num.f, Option.bind_some]
          refine Ev.shift ?_
          simp only [gimballaw1_FxSqrts.j3, bne_self_eq_false, Bool.false_eq_true, if_false, w1]
          exact next
        cases ha : wd a with
        | false =>
          simp only [Bool.false_eq_true, if_false]
          exact bad (by rw [ha]; simp)
        | true =>
          simp only [if_true]
          by_cases hneg : a < 0
          · rw [decide_eq_true hneg]
            exact bad (by omega)
          · rw [decide_eq_false hneg]
            obtain ⟨e, s0, s1, s2, s3⟩ := sq_word ha (by omega)
            have hb := (wd_iff.1 ha).2
            rw [e]
            generalize isq a = s at *
            refine Ev.shift ?_
            have hs2 : (s + 1) * (s + 1) = s * s + 2 * s + 1 := by rw [Int.add_mul, Int.mul_add]; omega
            have hs : 0 ≤ s * s := Int.mul_nonneg s0 s0
            have u1 : wrap64 (s * s) = s * s := wrap64_id (by omega) (by omega)
            have u2 : wrap64 (s + 1) = s + 1 := wrap64_id (by omega) (by omega)
            have u3 : wrap64 ((s + 1) * (s + 1)) = (s + 1) * (s + 1) := wrap64_id (by omega) (by omega)
            simp only [gimballaw1_FxSqrts.j2, Bool.false_eq_true, if_false, gimballaw1_num.f, Option.bind_some, if_true, u1, u2, u3, if_neg (show ¬ s < 0 by omega), if_neg (show ¬ s > 8388608 by omega), if_neg (show ¬ s * s > a by omega), if_neg (show ¬ (s + 1) * (s + 1) ≤ a by omega), w1]
            exact next
      · rw [decide_eq_false hc]
        exact fin i
    · simp only [hl, if_false]
      exact fin i

theorem pure : Pure := by
  intro l h
  exact Ev.rounds (l0_ev l h.2 h.1 l.length 0 (by omega) (by omega) (by omega))
end Go.Proofs.Ythokdnheijnmmaa.fxSqrts
