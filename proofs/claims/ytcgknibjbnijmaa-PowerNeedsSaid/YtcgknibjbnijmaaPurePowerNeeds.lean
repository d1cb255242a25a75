/- The law PowerNeeds over numbers and lists: for every list of sensors each call of the program's own Needs answers as the reference does, or refuses; no condition. -/
import Derived.Test.YtcgknibjbnijmaaGPowerNeeds
namespace Go.Proofs.Ytcgknibjbnijmaa.powerNeeds
open Go.RowKit Go.Proofs.Ytcgknibjbnijmaa.QPNeeds Go.Proofs.YtcgknibjbnijmaaW.PrintWords Go.Proofs.YtcgknibjbnijmaaW.PrintLast

theorem needs_bad (s : Int) (h : s < 1 ∨ s > 15) (k : Nat) : power_Needs.f k s = some ([], 1) := by
  unfold power_Needs.f cmd_Sensor.f
  rcases h with h | h
  · rw [if_neg (by omega)]; rfl
  · rw [if_pos (by omega), decide_eq_false (by omega)]; rfl

theorem in_cases (s : Int) (h : 1 ≤ s) (h' : s ≤ 15) : s = 1 ∨ s = 2 ∨ s = 3 ∨ s = 4 ∨ s = 5 ∨ s = 6 ∨ s = 7 ∨ s = 8 ∨ s = 9 ∨ s = 10 ∨ s = 11 ∨ s = 12 ∨ s = 13 ∨ s = 14 ∨ s = 15 := by omega

/-- Each sensor's devices, and that the reference tells the same. -/
theorem needs_good (s : Int) (h : 1 ≤ s) (h' : s ≤ 15) : ∃ l, Ev (fun k => power_Needs.f k s) (l, 0) ∧ Ev (fun k => gimbalref26_Needs.f k s) l ∧ Ev (fun k => gimbalref0_EqNumbers.f k l l) true := by
  have e : ∀ l : List Int, power_Needs.f 40 s = some (l, 0) → gimbalref26_Needs.f 40 s = some l → gimbalref0_EqNumbers.f 40 l l = some true →
      ∃ l, Ev (fun k => power_Needs.f k s) (l, 0) ∧ Ev (fun k => gimbalref26_Needs.f k s) l ∧ Ev (fun k => gimbalref0_EqNumbers.f k l l) true :=
    fun l a b c => ⟨l, Ev.of (power_Needs.mono s) a, Ev.of (gimbalref26_Needs.mono s) b, Ev.of (gimbalref0_EqNumbers.mono l l) c⟩
  rcases in_cases s h h' with r | r | r | r | r | r | r | r | r | r | r | r | r | r | r <;> subst r
  · exact e [1] (by decide +kernel) (by decide +kernel) (by decide +kernel)
  · exact e [2] (by decide +kernel) (by decide +kernel) (by decide +kernel)
  · exact e [3] (by decide +kernel) (by decide +kernel) (by decide +kernel)
  · exact e [4] (by decide +kernel) (by decide +kernel) (by decide +kernel)
  · exact e [5] (by decide +kernel) (by decide +kernel) (by decide +kernel)
  · exact e [1, 2, 3] (by decide +kernel) (by decide +kernel) (by decide +kernel)
  · exact e [1, 2] (by decide +kernel) (by decide +kernel) (by decide +kernel)
  · exact e [1, 2] (by decide +kernel) (by decide +kernel) (by decide +kernel)
  · exact e [1, 2, 3] (by decide +kernel) (by decide +kernel) (by decide +kernel)
  · exact e [4] (by decide +kernel) (by decide +kernel) (by decide +kernel)
  · exact e [1] (by decide +kernel) (by decide +kernel) (by decide +kernel)
  · exact e [1] (by decide +kernel) (by decide +kernel) (by decide +kernel)
  · exact e [1] (by decide +kernel) (by decide +kernel) (by decide +kernel)
  · exact e [1, 2] (by decide +kernel) (by decide +kernel) (by decide +kernel)
  · exact e [1] (by decide +kernel) (by decide +kernel) (by decide +kernel)

theorem l1_ev : Ev (fun k => gimballaw26_PowerNeeds.l1 k 1) true :=
  Ev.of (fun k => (gimballaw26_PowerNeeds.mono_l k).2.2.2 1) (k := 200) (by decide +kernel)

theorem l0_ev (l : List Int) (hn : l.length * 8 ≤ 140737488351232) (d : Nat) : ∀ i : Int, 0 ≤ i → (l.length : Int) - i ≤ d → i ≤ l.length → Ev (fun k => gimballaw26_PowerNeeds.l0 k l i) true := by
  induction d with
  | zero =>
    intro i h0 h1 h2
    refine Ev.step (f := fun k => gimballaw26_PowerNeeds.j1 k l i false) (fun k => by simp only [gimballaw26_PowerNeeds.l0]; rw [if_neg (by omega)]) ?_
    refine Ev.step (f := fun k => gimballaw26_PowerNeeds.l1 k 1) (fun k => by simp only [gimballaw26_PowerNeeds.j1]; rfl) ?_
    exact l1_ev
  | succ d ih =>
    intro i h0 h1 h2
    by_cases hl : i < (l.length : Int)
    · have w1 : wrap64 (i + 1) = i + 1 := by unfold wrap64; omega
      refine Ev.step (f := fun k => gimballaw26_PowerNeeds.j1 k l i (decide (i < 100))) (fun k => by simp only [gimballaw26_PowerNeeds.l0]; rw [if_pos hl]) ?_
      by_cases hc : i < 100
      · rw [decide_eq_true hc]
        by_cases hs : rd l i < 1 ∨ rd l i > 15
        · refine Ev.step (f := fun k => gimballaw26_PowerNeeds.j2 k l i [] 1 true) (fun k => ?_) ?_
          · simp only [gimballaw26_PowerNeeds.j1]
            rw [if_pos h0, if_pos hl, needs_bad _ hs]
            simp only [if_true, Option.bind_some]
            rcases hs with hs | hs
            · rw [if_pos hs]
            · rw [if_neg (by omega), decide_eq_true hs]
          · refine Ev.step (f := fun k => gimballaw26_PowerNeeds.l0 k l (i + 1)) (fun k => ?_) ?_
            · simp only [gimballaw26_PowerNeeds.j2, gimballaw26_num.f, Option.bind_some]
              rw [if_pos trivial, if_pos trivial, if_neg (by simp), w1]
            · exact ih (i + 1) (by omega) (by omega) (by omega)
        · obtain ⟨m, e1, e2, e3⟩ := needs_good (rd l i) (by omega) (by omega)
          refine Ev.step (f := fun k => (power_Needs.f k (rd l i)).bind fun t => gimballaw26_PowerNeeds.j2 k l i t.1 t.2 false) (fun k => ?_) ?_
          · simp only [gimballaw26_PowerNeeds.j1]
            rw [if_pos h0, if_pos hl, if_pos trivial]
            congr 1; funext t
            rw [if_neg (by omega), decide_eq_false (p := rd l i > 15) (by omega)]
          · refine Ev.bind e1 ?_
            refine Ev.step (f := fun k => (gimbalref26_Needs.f k (rd l i)).bind fun t => (gimbalref0_EqNumbers.f k m t).bind fun u => if u = true then gimballaw26_PowerNeeds.l0 k l (i + 1) else some false) (fun k => ?_) ?_
            · simp only [gimballaw26_PowerNeeds.j2, gimballaw26_num.f, Option.bind_some]
              rw [if_neg (by simp), if_pos trivial, if_pos h0, if_pos hl, w1]
            · refine Ev.bind e2 (Ev.bind e3 ?_)
              simp only [if_true]
              exact ih (i + 1) (by omega) (by omega) (by omega)
      · rw [decide_eq_false hc]
        refine Ev.step (f := fun k => gimballaw26_PowerNeeds.l1 k 1) (fun k => by simp only [gimballaw26_PowerNeeds.j1]; rfl) ?_
        exact l1_ev
    · refine Ev.step (f := fun k => gimballaw26_PowerNeeds.j1 k l i false) (fun k => by simp only [gimballaw26_PowerNeeds.l0]; rw [if_neg hl]) ?_
      refine Ev.step (f := fun k => gimballaw26_PowerNeeds.l1 k 1) (fun k => by simp only [gimballaw26_PowerNeeds.j1]; rfl) ?_
      exact l1_ev

theorem pure : Pure := by
  intro l h
  exact Ev.rounds (l0_ev l h.1 l.length 0 (by omega) (by omega) (by omega))
end Go.Proofs.Ytcgknibjbnijmaa.powerNeeds
