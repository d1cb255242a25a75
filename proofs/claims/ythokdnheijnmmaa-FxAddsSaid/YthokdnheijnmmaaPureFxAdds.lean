/- The law FxAdds over numbers and lists. -/
import Derived.Test.YthokdnheijnmmaaGFxAdds
set_option linter.unusedVariables false
set_option linter.unusedSimpArgs false
namespace Go.Proofs.Ythokdnheijnmmaa.fxAdds
open Go.RowKit Go.Proofs.Ythokdnheijnmmaa.QFx2 Go.Proofs.YthokdnheijnmmaaW.PrintWords Go.Proofs.YthokdnheijnmmaaW.PrintMore Go.Proofs.YthokdnheijnmmaaW.Aid
open Go.Proofs.Ythokdnheijnmmaa.FxWalk
theorem wakes_ev : Ev (fun _ => gimballaw1_wakes.f) true := Ev.pure (fun _ => by decide +kernel)
theorem may_f (x : Int) : gimbalref1_May.f x = some (wd x) := by
  unfold gimbalref1_May.f wd
  by_cases h : -35184372088832 < x
  · rw [if_pos h, decide_eq_true h]; rfl
  · rw [if_neg h, decide_eq_false h]; rfl

theorem l0_ev (l : List S24) (hg : ∀ x ∈ l, G24 x) (hn : l.length * 48 ≤ 140737488351232) (d : Nat) : ∀ i : Int, 0 ≤ i → (l.length : Int) - i ≤ d → i ≤ l.length → Ev (fun k => gimballaw1_FxAdds.l0 k l i) true := by
  have fin : ∀ i, Ev (fun k => gimballaw1_FxAdds.j1 k l i false) true := by
    intro i
    refine Ev.shift ?_
    simp only [gimballaw1_FxAdds.j1, Bool.false_eq_true, if_false]
    exact Ev.bind wakes_ev (Ev.pure fun _ => rfl)
  induction d with
  | zero =>
    intro i h0 h1 h2
    refine Ev.shift ?_
    simp only [gimballaw1_FxAdds.l0, if_neg (show ¬ i < (l.length : Int) by omega)]
    exact fin i
  | succ d ih =>
    intro i h0 h1 h2
    refine Ev.shift ?_
    simp only [gimballaw1_FxAdds.l0]
    by_cases hl : i < (l.length : Int)
    · simp only [hl, if_true]
      by_cases hc : i < 30
      · rw [decide_eq_true hc]
        have w1 : wrap64 (i + 1) = i + 1 := wrap64_id (by omega) (by omega)
        have next := ih (i + 1) (by omega) (by omega) (by omega)
        refine Ev.shift ?_
        have hx : G24 (rd_T24 l i) := hg _ (getD_mem z24 h0 hl)
        simp only [gimballaw1_FxAdds.j1, if_true, h0, hl]
        generalize rd_T24 l i = x at *
        obtain ⟨⟨a, b, c, d, e, f⟩, rfl⟩ : ∃ y : S24, x = y := ⟨x, rfl⟩
        simp only [fx_Add.f, fx_Sub.f, may_f, Option.bind_some]
        cases ha : wd a with
        | false =>
          simp only [Bool.false_and, Bool.false_eq_true, if_false]
          refine Ev.shift ?_
          simp only [gimballaw1_FxAdds.j2, if_true, gimballaw1_num.f, Option.bind_some, w1]
          exact next
        | true =>
          cases hb : wd b with
          | false =>
            simp only [Bool.and_false, Bool.false_eq_true, if_false, if_true, Bool.not_false]
            refine Ev.shift ?_
            simp only [gimballaw1_FxAdds.j2, if_true, gimballaw1_num.f, Option.bind_some, w1]
            exact next
          | true =>
            simp only [Bool.and_self, if_true, Bool.not_true]
            rw [wd_iff] at ha hb
            have ws : wrap64 (a + b) = a + b := wrap64_id (by omega) (by omega)
            have wl : wrap64 (a - b) = a - b := wrap64_id (by omega) (by omega)
            have last : ∀ v, (wordR (a - b)) = v → Ev (fun k => gimballaw1_FxAdds.j4 k l i a b v.1 v.2 false) true := by
              rintro v rfl
              refine Ev.shift ?_
              simp only [gimballaw1_FxAdds.j4, Bool.false_eq_true, if_false, gimballaw1_num.f, Option.bind_some, wl, w1]
              unfold wordR
              cases wd (a - b) with
              | true => simpa using next
              | false => simpa using next
            refine Ev.shift ?_
            simp only [gimballaw1_FxAdds.j2, Bool.false_eq_true, if_false, may_f, gimballaw1_num.f, Option.bind_some, ws, wl]
            have e1 : (wd (a + b) != ((wordR (a + b)).2 == 0)) = false := by unfold wordR; cases wd (a + b) <;> rfl
            have e2 : (wd (a - b) != ((wordR (a - b)).2 == 0)) = false := by unfold wordR; cases wd (a - b) <;> rfl
            simp only [e1, e2, Bool.false_eq_true, if_false]
            refine Ev.shift ?_
            simp only [gimballaw1_FxAdds.j3, Bool.false_eq_true, if_false, gimballaw1_num.f, Option.bind_some, ws]
            have := last _ rfl
            cases hs : wd (a + b) with
            | true => simpa [wordR, hs] using this
            | false => simpa [wordR, hs] using this
      · rw [decide_eq_false hc]
        exact fin i
    · simp only [hl, if_false]
      exact fin i

theorem pure : Pure := by
  intro l h
  exact Ev.rounds (l0_ev l h.2 h.1 l.length 0 (by omega) (by omega) (by omega))
end Go.Proofs.Ythokdnheijnmmaa.fxAdds
