/- The law MotionStill over numbers and lists. -/
import Derived.Test.YtcgknibjbnijmaaGMotionStill
import Derived.Test.YtcgknibjbnijmaaPMotionBase
set_option linter.unusedVariables false
namespace Go.Proofs.Ytcgknibjbnijmaa.motionStill
open Go.RowKit Go.Proofs.Ytcgknibjbnijmaa.QMotion Go.Proofs.YtcgknibjbnijmaaW.PrintWords Go.Proofs.YtcgknibjbnijmaaW.PrintMore Go.Proofs.YtcgknibjbnijmaaW.Aid Go.Proofs.Ytcgknibjbnijmaa.PMotion

theorem wakes_ev : Ev (fun k => gimballaw21_wakes.f k) true := Ev.of gimballaw21_wakes.mono (k := 30) (by decide +kernel)

/-- What holds of the state, whatever came. -/
def Inv (now : Int) (o : Bool) (s mi ma mo : Int) (t : Bool) : Prop :=
  (o = false ∧ s = 0 ∧ mi = 0 ∧ ma = 0 ∧ mo = 0 ∧ t = false) ∨ (o = true ∧ 0 ≤ s ∧ s ≤ now ∧ 5000000 ≤ mi ∧ mi ≤ ma ∧ ma ≤ 5980665 ∧ mo = 0 ∧ t = false)

theorem cnt0 : cnt 8 0 = 0 := by decide +kernel

theorem step {now now' : Int} {o : Bool} {s mi ma mo : Int} {t : Bool} {m : Int} (h : Inv now o s mi ma mo t) (hn : 0 ≤ now) (hnn : now ≤ now') (hn' : now' ≤ 1000000) (hm : 5000000 ≤ m) (hm' : m ≤ 5980665) :
    ∃ s' mi' ma', Ev (fun k => motion_Take.f k o s mi ma mo t m now') (true, s', mi', ma', 0, false, false, 0) ∧ Inv now' true s' mi' ma' 0 false := by
  have hgm : gd m = true := by rw [gd_iff]; omega
  have htn : tm now' = true := by rw [tm_iff]; omega
  rcases h with ⟨rfl, rfl, rfl, rfl, rfl, rfl⟩ | ⟨rfl, hs0, hs, h1, h2, h3, rfl, rfl⟩
  · have hok : okB false 0 0 0 0 false = true := by decide
    exact ⟨now', m, m, take_ok hok (by omega) hgm htn (by omega), .inr ⟨rfl, by omega, by omega, by omega, by omega, by omega, rfl, rfl⟩⟩
  · have hok : okB true s mi ma 0 false = true := by
      simp only [okB, tm, gd, Bool.and_eq_true, decide_eq_true_eq, Bool.true_or, and_true]
      omega
    have key := take_ok hok (by omega) hgm htn (by omega : s ≤ now')
    unfold takeR at key
    rw [if_pos rfl] at key
    by_cases hw : now' - s < 1000
    · rw [if_pos hw] at key
      refine ⟨s, mn mi m, mx ma m, key, .inr ⟨rfl, hs0, by omega, ?_, ?_, ?_, rfl, rfl⟩⟩
      · unfold mn; split <;> omega
      · unfold mn mx; split <;> split <;> omega
      · unfold mx; split <;> omega
    · rw [if_neg hw] at key
      have e : (2 * 0 + if ma - mi > 980665 then (1 : Int) else 0) % 256 = 0 := by rw [if_neg (by omega)]; rfl
      simp only [e, cnt0] at key
      exact ⟨now', m, m, key, .inr ⟨rfl, by omega, by omega, by omega, by omega, by omega, rfl, rfl⟩⟩

theorem l0_ev (l : List S36) (hn : l.length * 64 ≤ 140737488351232) (d : Nat) : ∀ (i now : Int) (o : Bool) (s mi ma mo : Int) (t : Bool), 0 ≤ i → (l.length : Int) - i ≤ d → i ≤ l.length → 0 ≤ now → now ≤ 1500 * i → i ≤ 100 → Inv now o s mi ma mo t →
    Ev (fun k => gimballaw21_MotionStill.l0 k l now i o s mi ma mo t) true := by
  have fin : ∀ now i o s mi ma mo t, Ev (fun k => gimballaw21_MotionStill.j1 k l now i false o s mi ma mo t) true := by
    intro now i o s mi ma mo t
    refine Ev.shift ?_
    simp only [gimballaw21_MotionStill.j1, Bool.false_eq_true, if_false]
    exact Ev.bind wakes_ev (Ev.pure fun _ => rfl)
  induction d with
  | zero =>
    intro i now o s mi ma mo t h0 h1 h2 h3 h4 h5 hI
    refine Ev.shift ?_
    simp only [gimballaw21_MotionStill.l0, if_neg (show ¬ i < (l.length : Int) by omega)]
    exact fin _ _ _ _ _ _ _ _
  | succ d ih =>
    intro i now o s mi ma mo t h0 h1 h2 h3 h4 h5 hI
    refine Ev.shift ?_
    simp only [gimballaw21_MotionStill.l0]
    by_cases hl : i < (l.length : Int)
    · simp only [hl, if_true]
      by_cases hc : i < 100
      · rw [decide_eq_true hc]
        have w1 : wrap64 (i + 1) = i + 1 := wrap64_id (by omega) (by omega)
        refine Ev.shift ?_
        simp only [gimballaw21_MotionStill.j1, if_true, h0, hl]
        generalize rd_T36 l i = x
        obtain ⟨e1, b1, c1⟩ := within_of (a := x.f2) (n := 1500) (by omega) (by omega)
        obtain ⟨e2, b2, c2⟩ := within_of (a := x.f1) (n := 980666) (by omega) (by omega)
        have z1 : ¬ IntKind.u64.wrap 1500 = 0 := by rw [u64_wrap]; omega
        have z2 : ¬ IntKind.u64.wrap 980666 = 0 := by rw [u64_wrap]; omega
        simp only [gimballaw0_Within.f, z1, z2, if_false, Option.bind_some, e1, e2]
        generalize x.f2 % 18446744073709551616 % 1500 = a at *
        generalize x.f1 % 18446744073709551616 % 980666 = b at *
        rw [wrap64_id (x := 5000000 + b) (by omega) (by omega), wrap64_id (x := now + a) (by omega) (by omega)]
        obtain ⟨s', mi', ma', hev, hI'⟩ := step (m := 5000000 + b) hI h3 (show now ≤ now + a by omega) (by omega) (by omega) (by omega)
        refine Ev.bind hev ?_
        simp only [gimballaw21_num.f, Option.bind_some, if_true, Bool.false_eq_true, if_false, w1]
        exact ih (i + 1) (now + a) true s' mi' ma' 0 false (by omega) (by omega) (by omega) (by omega) (by omega) (by omega) hI'
      · rw [decide_eq_false hc]
        exact fin _ _ _ _ _ _ _ _
    · simp only [hl, if_false]
      exact fin _ _ _ _ _ _ _ _

theorem pure : Pure := by
  intro l h
  exact Ev.rounds (l0_ev l h.1 l.length 0 0 false 0 0 0 0 false (by omega) (by omega) (by omega) (by omega) (by omega) (by omega) (.inl ⟨rfl, rfl, rfl, rfl, rfl, rfl⟩))
end Go.Proofs.Ytcgknibjbnijmaa.motionStill
