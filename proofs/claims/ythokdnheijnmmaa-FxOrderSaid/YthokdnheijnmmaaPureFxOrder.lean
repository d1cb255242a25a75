/- The law FxOrder over numbers and lists. -/
import Derived.Test.YthokdnheijnmmaaGFxOrder
import Derived.Test.YthokdnheijnmmaaHRd
set_option linter.unusedVariables false
set_option linter.unusedSimpArgs false
namespace Go.Proofs.Ythokdnheijnmmaa.fxOrder
open Go.RowKit Go.Proofs.Ythokdnheijnmmaa.QFxO Go.Proofs.YthokdnheijnmmaaW.PrintWords Go.Proofs.YthokdnheijnmmaaW.PrintMore Go.Proofs.YthokdnheijnmmaaW.Aid
open Go.Proofs.Ythokdnheijnmmaa.FxWalk Go.Proofs.Ythokdnheijnmmaa.Wh
theorem wakes_ev : Ev (fun _ => gimballaw1_wakes.f) true := Ev.pure (fun _ => by decide +kernel)
theorem may_f (x : Int) : gimbalref1_May.f x = some (wd x) := by
  unfold gimbalref1_May.f wd
  by_cases h : -35184372088832 < x
  · rw [if_pos h, decide_eq_true h]; rfl
  · rw [if_neg h, decide_eq_false h]; rfl
theorem mul_le {a b c : Int} (ha : wd a = true) (hb : wd b = true) (hc : wd c = true) (h0 : 0 < c) (h : a ≤ b) (e1 : (timesR a c).2 = 0) (e2 : (timesR b c).2 = 0) : ¬ (timesR a c).1 > (timesR b c).1 := by
  rw [timesR_eq] at e1 ⊢
  rw [timesR_eq] at e2 ⊢
  rw [told_ok e1, told_ok e2]
  have := roundP_mono (c := 1073741824) (by decide) (Int.mul_le_mul_of_nonneg_right h (show 0 ≤ c by omega))
  omega
theorem div_eq {a c : Int} (ha : wd a = true) (hc : wd c = true) (h0 : 0 < c) : divR a c = toldR (roundP (a * 1073741824) c) := by
  unfold divR overR ratioR
  rw [ha, hc, if_pos (by decide), if_neg (by omega), roundI_pos h0]
theorem div_le {a b c : Int} (ha : wd a = true) (hb : wd b = true) (hc : wd c = true) (h0 : 0 < c) (h : a ≤ b) (e1 : (divR a c).2 = 0) (e2 : (divR b c).2 = 0) : ¬ (divR a c).1 > (divR b c).1 := by
  rw [div_eq ha hc h0] at e1 ⊢
  rw [div_eq hb hc h0] at e2 ⊢
  rw [told_ok e1, told_ok e2]
  have := roundP_mono (c := c) h0 (Int.mul_le_mul_of_nonneg_right h (show (0 : Int) ≤ 1073741824 by omega))
  omega
theorem ratio_eq {a c : Int} (ha : wd a = true) (h0 : 0 < c) : ratioR a c = (roundP a c, 0) := by
  unfold ratioR
  rw [if_neg (by omega), roundI_pos h0]
  have := roundP_abs (x := a) h0
  rw [wd_iff] at ha
  rw [told_wd]
  rw [wd_iff]
  rcases Int.le_total 0 a with h | h
  · have := this.1 h; omega
  · have := this.2 h; omega
theorem ratio_f {a c : Int} (ha : wd a = true) (hc : wd c = true) (h0 : 0 < c) : fx_Ratio.f a c = some (roundP a c, 0) := by
  rw [fx_Ratio.f, ratio_eq ha h0, if_pos]
  rw [wd_iff] at ha hc
  omega
theorem ratio3_f {a c : Int} (ha : wd a = true) (hc : wd c = true) (h0 : 0 < c) : fx_Ratio.f (wrap64 (3 * a)) (wrap64 (3 * c)) = some (roundP a c, 0) := by
  have ha' := wd_iff.1 ha
  have hc' := wd_iff.1 hc
  rw [wrap64_id (by omega) (by omega), wrap64_id (by omega) (by omega), fx_Ratio.f, if_pos (by omega)]
  have := ratio_eq ha h0
  unfold ratioR at this ⊢
  rw [if_neg (by omega), roundI_pos h0] at this
  rw [if_neg (by omega), roundI_pos (by omega), roundP_scale (by decide) h0, this]
theorem ration_f {a c : Int} (ha : wd a = true) (hc : wd c = true) (h0 : 0 < c) : fx_Ratio.f (wrap64 (-a)) c = some (-roundP a c, 0) := by
  have ha' := wd_iff.1 ha
  rw [wrap64_id (by omega) (by omega), ratio_f (wd_iff.2 (by omega)) hc h0, roundP_neg h0]

theorem l0_ev (l : List S24) (hg : ∀ x ∈ l, G24 x) (hn : l.length * 48 ≤ 140737488351232) (d : Nat) : ∀ i : Int, 0 ≤ i → (l.length : Int) - i ≤ d → i ≤ l.length → Ev (fun k => gimballaw1_FxOrder.l0 k l i) true := by
  have fin : ∀ i, Ev (fun k => gimballaw1_FxOrder.j1 k l i false) true := by
    intro i
    refine Ev.shift ?_
    simp only [gimballaw1_FxOrder.j1, Bool.false_eq_true, if_false]
    exact Ev.bind wakes_ev (Ev.pure fun _ => rfl)
  induction d with
  | zero =>
    intro i h0 h1 h2
    refine Ev.shift ?_
    have w1 : wrap64 (i + 1) = i + 1 := wrap64_id (by omega) (by omega)
    simp only [gimballaw1_FxOrder.l0, w1, if_neg (show ¬ i + 1 < (l.length : Int) by omega)]
    exact fin i
  | succ d ih =>
    intro i h0 h1 h2
    refine Ev.shift ?_
    have w1 : wrap64 (i + 1) = i + 1 := wrap64_id (by omega) (by omega)
    simp only [gimballaw1_FxOrder.l0, w1]
    by_cases hl : i + 1 < (l.length : Int)
    · simp only [hl, if_true]
      by_cases hc : i < 30
      · rw [decide_eq_true hc]
        have next := ih (i + 1) (by omega) (by omega) (by omega)
        have hl0 : i < (l.length : Int) := by omega
        have h01 : 0 ≤ i + 1 := by omega
        refine Ev.shift ?_
        simp only [gimballaw1_FxOrder.j1, if_true, h0, hl, hl0, h01, w1]
        generalize (rd_T24 l i).f1 = c at *
        generalize (rd_T24 l i).f0 = a at *
        generalize (rd_T24 l (i + 1)).f0 = b at *
        have skip : ∀ c, Ev (fun k => gimballaw1_FxOrder.j2 k l i a b c true) true := by
          intro c
          refine Ev.shift ?_
          simp only [gimballaw1_FxOrder.j2, if_true, w1]
          exact next
        have g4 : ∀ a c, wd a = true → wd c = true → 0 < c → Ev (fun k => gimballaw1_FxOrder.j4 k l i a c false) true := by
          intro a c ha hc h0
          refine Ev.shift ?_
          simp only [gimballaw1_FxOrder.j4, Bool.false_eq_true, if_false, ratio_f ha hc h0, ratio3_f ha hc h0, ration_f ha hc h0, Option.bind_some, gimballaw1_num.f, if_true, w1]
          have hb := roundP_abs (x := a) h0
          rw [wd_iff] at ha
          rw [wrap64_id (by omega) (by omega)]
          simp only [eq_self_iff_true, if_true]
          exact next
        have g3 : ∀ a b c, wd a = true → wd b = true → wd c = true → 0 < c → a ≤ b → Ev (fun k => gimballaw1_FxOrder.j3 k l i a b c) true := by
          intro a b c ha hb hc h0 hab
          refine Ev.shift ?_
          simp only [gimballaw1_FxOrder.j3, fx_Mul.f, fx_Div.f, ha, hb, hc, Bool.and_self, if_true, gimballaw1_num.f, Option.bind_some]
          have ld : (divR a c).2 = 0 → (divR b c).2 = 0 → decide ((divR a c).1 > (divR b c).1) = false := fun e1 e2 => decide_eq_false (div_le ha hb hc h0 hab e1 e2)
          have lm := mul_le ha hb hc h0 hab
          by_cases e1 : (timesR a c).2 = 0 <;> by_cases e2 : (timesR b c).2 = 0 <;> by_cases e3 : (divR a c).2 = 0 <;> by_cases e4 : (divR b c).2 = 0 <;> simp only [e1, e2, e3, e4, if_true, if_false] <;> (try rw [ld e3 e4]) <;> (try simp only [if_neg (lm e1 e2)]) <;> exact g4 _ _ ha hc h0
        simp only [may_f, Option.bind_some]
        cases ha : wd a with
        | false => simpa using skip c
        | true =>
          cases hb : wd b with
          | false => simpa using skip c
          | true =>
            cases hc : wd c with
            | false => simpa using skip c
            | true =>
              simp only [if_true]
              by_cases h0 : c ≤ 0
              · rw [decide_eq_true h0]; exact skip c
              · rw [decide_eq_false h0]
                refine Ev.shift ?_
                simp only [gimballaw1_FxOrder.j2, Bool.false_eq_true, if_false]
                by_cases hab : a > b
                · simp only [hab, if_true]
                  exact g3 _ _ _ hb ha hc (by omega) (by omega)
                · simp only [hab, if_false]
                  exact g3 _ _ _ ha hb hc (by omega) (by omega)
      · rw [decide_eq_false hc]
        exact fin i
    · simp only [hl, if_false]
      exact fin i

theorem pure : Pure := by
  intro l h
  exact Ev.rounds (l0_ev l h.2 h.1 l.length 0 (by omega) (by omega) (by omega))
end Go.Proofs.Ythokdnheijnmmaa.fxOrder
