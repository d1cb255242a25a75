/- The law MotionExact over numbers and lists. -/
import Derived.Test.YtcgknibjbnijmaaGMotionExact
import Derived.Test.YtcgknibjbnijmaaPMotionBase
set_option linter.unusedVariables false
namespace Go.Proofs.Ytcgknibjbnijmaa.motionExact
open Go.RowKit Go.Proofs.Ytcgknibjbnijmaa.QMotion Go.Proofs.YtcgknibjbnijmaaW.PrintWords Go.Proofs.YtcgknibjbnijmaaW.PrintMore Go.Proofs.YtcgknibjbnijmaaW.Aid Go.Proofs.Ytcgknibjbnijmaa.PMotion

theorem ref_ok {o : Bool} {s mi ma mo : Int} {t : Bool} {m now : Int} (h : okB o s mi ma mo t = true) (hn : tm now = true) (hs : s ≤ now) :
    Ev (fun k => gimbalref15_Motion.f k o s mi ma mo t m now) (fst7 (takeR o s mi ma mo t m now)) := by
  simp [okB, tm, gd] at h
  simp [tm] at hn
  obtain ⟨⟨hs0, hs1⟩, ⟨⟨⟨a1, a2⟩, a3, a4⟩, hmi, hmm, hmo, hmo2, _⟩⟩ := h
  unfold gimbalref15_Motion.f takeR fst7
  rw [wrap64_id (x := now - s) (by omega) (by omega), wrap64_id (x := ma - mi) (by omega) (by omega)]
  cases o with
  | false => exact Ev.pure fun k => rfl
  | true =>
    by_cases hw : now - s < 1000
    · refine Ev.pure fun k => ?_
      simp only [hw, if_true]
    · simp only [hw, if_true, if_false]
      have key : ∀ b : Int, 0 ≤ b → b ≤ 1 → Ev (fun k => gimbalref15_Motion.j0 k m now b true s mi ma mo t)
          (true, now, m, m, (2 * mo + b) % 256, if 5 ≤ cnt 8 ((2 * mo + b) % 256) ∧ t = false then true else if cnt 8 ((2 * mo + b) % 256) = 0 then false else t, decide (5 ≤ cnt 8 ((2 * mo + b) % 256)) && !t) := by
        intro b hb0 hb1
        refine Ev.shift ?_
        simp only [gimbalref15_Motion.j0]
        have e1 : wrap64 (wrap64 (2 * mo) + b) = 2 * mo + b := by rw [wrap64_id (x := 2 * mo) (by omega) (by omega), wrap64_id (by omega) (by omega)]
        rw [e1, tmod_pos (by omega)]
        have := rloop now m m ((2 * mo + b) % 256) t 8 0 ((2 * mo + b) % 256) (Int.emod_nonneg _ (by omega)) (Int.emod_lt_of_pos _ (by omega)) (by omega) (by omega) (by omega)
        simpa only [Int.zero_add] using this
      by_cases hg : ma - mi > 980665
      · simp only [hg, if_true]
        exact key 1 (by omega) (by omega)
      · simp only [hg, if_false]
        exact key 0 (by omega) (by omega)

theorem wakes_ev : Ev (fun k => gimballaw21_wakes.f k) true := Ev.of gimballaw21_wakes.mono (k := 30) (by decide +kernel)

theorem l0_ev (l : List S36) (hn : l.length * 64 ≤ 140737488351232) (d : Nat) : ∀ i : Int, 0 ≤ i → (l.length : Int) - i ≤ d → i ≤ l.length → Ev (fun k => gimballaw21_MotionExact.l0 k l i) true := by
  have fin : ∀ i, Ev (fun k => gimballaw21_MotionExact.j1 k l i false) true := by
    intro i
    refine Ev.shift ?_
    simp only [gimballaw21_MotionExact.j1, Bool.false_eq_true, if_false]
    exact Ev.bind wakes_ev (Ev.pure fun _ => rfl)
  induction d with
  | zero =>
    intro i h0 h1 h2
    refine Ev.shift ?_
    simp only [gimballaw21_MotionExact.l0, if_neg (show ¬ i < (l.length : Int) by omega)]
    exact fin i
  | succ d ih =>
    intro i h0 h1 h2
    refine Ev.shift ?_
    simp only [gimballaw21_MotionExact.l0]
    by_cases hl : i < (l.length : Int)
    · simp only [hl, if_true]
      by_cases hc : i < 100
      · rw [decide_eq_true hc]
        have w1 : wrap64 (i + 1) = i + 1 := wrap64_id (by omega) (by omega)
        refine Ev.shift ?_
        simp only [gimballaw21_MotionExact.j1, if_true, h0, hl, mag_f, rtime_f, Option.bind_some]
        generalize rd_T36 l i = x
        have next := ih (i + 1) (by omega) (by omega) (by omega)
        have bad : (okB x.f0.f0 x.f0.f1 x.f0.f2 x.f0.f3 x.f0.f4 x.f0.f5 && (decide (0 ≤ x.f1) && gd x.f1 && (tm x.f2 && decide (x.f0.f1 ≤ x.f2)))) = false →
            Ev (fun k => gimballaw21_MotionExact.j2 k l i 1 false false x.f0.f0 x.f0.f1 x.f0.f2 x.f0.f3 x.f0.f4 x.f0.f5 x.f1 x.f2 false 0 0 0 0 false) true := by
          intro h
          refine Ev.shift ?_
          simp only [gimballaw21_MotionExact.j2, Bool.false_eq_true, if_false]
          refine Ev.shift ?_
          simp only [gimballaw21_MotionExact.j3]
          refine Ev.bind (take_bad h) ?_
          simp only [gimballaw21_num.f, Option.bind_some, w1]
          simpa using next
        refine Ev.bind (rmay_ev _ _ _ _ _ _) ?_
        cases hk : okB x.f0.f0 x.f0.f1 x.f0.f2 x.f0.f3 x.f0.f4 x.f0.f5 with
        | false => simpa using bad (by rw [hk]; rfl)
        | true =>
          simp only [if_true]
          cases hg : (decide (0 ≤ x.f1) && gd x.f1) with
          | false => simpa using bad (by rw [hk, hg]; rfl)
          | true =>
            simp only [if_true]
            cases ht : tm x.f2 with
            | false => simpa using bad (by rw [hk, hg, ht]; rfl)
            | true =>
              simp only [if_true, ge_iff_le]
              by_cases hs : x.f0.f1 ≤ x.f2
              · rw [decide_eq_true hs]
                refine Ev.shift ?_
                simp only [gimballaw21_MotionExact.j2, if_true]
                refine Ev.bind (ref_ok hk ht hs) ?_
                simp at hg
                refine Ev.shift ?_
                simp only [gimballaw21_MotionExact.j3]
                refine Ev.bind (take_ok hk hg.1 hg.2 ht hs) ?_
                have e0 : (takeR x.f0.f0 x.f0.f1 x.f0.f2 x.f0.f3 x.f0.f4 x.f0.f5 x.f1 x.f2).2.2.2.2.2.2.2 = 0 := by unfold takeR; split <;> (try split) <;> rfl
                simp only [gimballaw21_num.f, Option.bind_some, fst7, e0, if_true, beq_self_eq_true, Bool.not_true, Bool.or_self, Bool.false_eq_true, if_false, bne_self_eq_false, w1]
                exact next
              · rw [decide_eq_false hs]
                exact bad (by rw [hk, hg, ht, decide_eq_false hs]; rfl)
      · rw [decide_eq_false hc]
        exact fin i
    · simp only [hl, if_false]
      exact fin i

theorem pure : Pure := by
  intro l h
  exact Ev.rounds (l0_ev l h.1 l.length 0 (by omega) (by omega) (by omega))
end Go.Proofs.Ytcgknibjbnijmaa.motionExact
