/- The law FrameBegins over numbers and lists. -/
import Derived.Test.YtaeabemipnbgbaaGFrameBegins
import Derived.Test.YtaeabemipnbgbaaPFrBase
set_option linter.unusedVariables false
set_option linter.unusedSimpArgs false
namespace Go.Proofs.Ytaeabemipnbgbaa.frameBegins
open Go.RowKit Go.Proofs.Ytaeabemipnbgbaa.QFr Go.Proofs.YtaeabemipnbgbaaW.PrintWords Go.Proofs.YtaeabemipnbgbaaW.PrintMore Go.Proofs.YtaeabemipnbgbaaW.Aid Go.Proofs.Ytaeabemipnbgbaa.PFr

theorem wakes_ev : Ev (fun k => gimballaw23_wakes.f k) true := Ev.of gimballaw23_wakes.mono (k := 30) (by decide +kernel)

theorem l0_ev (l : List S56) (hg : ∀ x ∈ l, G56 x) (hn : l.length * 64 ≤ 140737488351232) (d : Nat) : ∀ i : Int, 0 ≤ i → (l.length : Int) - i ≤ d → i ≤ l.length → Ev (fun k => gimballaw23_FrameBegins.l0 k l i) true := by
  have fin : ∀ i, Ev (fun k => gimballaw23_FrameBegins.j1 k l i false) true := by
    intro i
    refine Ev.shift ?_
    simp only [gimballaw23_FrameBegins.j1, Bool.false_eq_true, if_false]
    exact Ev.bind wakes_ev (Ev.pure fun _ => rfl)
  induction d with
  | zero =>
    intro i h0 h1 h2
    refine Ev.shift ?_
    simp only [gimballaw23_FrameBegins.l0, if_neg (show ¬ i < (l.length : Int) by omega)]
    exact fin i
  | succ d ih =>
    intro i h0 h1 h2
    refine Ev.shift ?_
    simp only [gimballaw23_FrameBegins.l0]
    by_cases hl : i < (l.length : Int)
    · simp only [hl, if_true]
      by_cases hc : i < 15
      · rw [decide_eq_true hc]
        have w1 : wrap64 (i + 1) = i + 1 := wrap64_id (by omega) (by omega)
        have next := ih (i + 1) (by omega) (by omega) (by omega)
        refine Ev.shift ?_
        have hx : G56 (rd_T56 l i) := hg _ (getD_mem z56 h0 hl)
        simp only [gimballaw23_FrameBegins.j1, if_true, h0, hl]
        generalize rd_T56 l i = x at *
        obtain ⟨⟨⟨sq, kd, pl⟩, bs⟩, rfl⟩ : ∃ y : S56, x = y := ⟨x, rfl⟩
        have hb : Bytes bs := bytes_wf hx.2.2
        simp only [gimballaw23_heavy.f]
        by_cases hp : (pl.length : Int) > 2000
        · simp only [hp, if_true, Option.bind_some]
          exact Ev.pure fun k => rfl
        simp only [hp, if_false, Option.bind_some]
        by_cases hbl : (bs.length : Int) > 2000
        · simp only [hbl, decide_true, if_true]
          exact Ev.pure fun k => rfl
        simp only [hbl, decide_false, Bool.false_eq_true, if_false]
        have e0 : begins [] = true := by decide
        refine Ev.bind (begins_ev (b := []) (fun x hx => by simp at hx) (by simp)) ?_
        simp only [e0, if_true]
        refine Ev.bind (begins_ev hb (by omega)) ?_
        -- the beginnings
        have dec : Ev (fun k => gimballaw23_FrameBegins.j3 k l i false 0 false sq kd pl bs) true := by
          refine Ev.shift ?_
          simp only [gimballaw23_FrameBegins.j3, Bool.false_eq_true, if_false]
          refine Ev.bind (dec_ev hb (by omega)) ?_
          simp only [gimballaw23_num.f, Option.bind_some]
          by_cases hd : (decR bs).2.2.2.2 = 0
          · obtain ⟨h1, h2, h3⟩ := dec_ok hb hd
            simp only [hd, if_true]
            refine Ev.bind (begins_ev hb (by omega)) ?_
            simp only [h1, if_true, if_neg (show ¬ (decR bs).2.2.2.1 < 7 by omega), if_neg (show ¬ (decR bs).2.2.2.1 > (bs.length : Int) by omega), w1]
            exact next
          · simp only [hd, if_false, w1]
            exact next
        have dec2 : ∀ is j, Ev (fun k => gimballaw23_FrameBegins.j3 k l i is j false sq kd pl bs) true := by
          intro is j
          refine Ev.shift ?_
          obtain ⟨K, hK⟩ := dec
          refine ⟨K, fun k hk => ?_⟩
          have := hK (k + 1) (by omega)
          simp only [gimballaw23_FrameBegins.j3, Bool.false_eq_true, if_false] at this ⊢
          exact this
        have loop : ∀ (m : Nat) (is : Bool), m ≤ bs.length → is = begins (bs.take m) → Ev (fun k => gimballaw23_FrameBegins.l1 k l i is ((m : Int) - 1) sq kd pl bs) true := by
          intro m
          induction m with
          | zero =>
            intro is _ _
            refine Ev.shift ?_
            simp only [gimballaw23_FrameBegins.l1, if_neg (show ¬ ((0 : Nat) : Int) - 1 ≥ 0 by omega)]
            exact dec2 _ _
          | succ m ihm =>
            intro is hm his
            have e : ((m + 1 : Nat) : Int) - 1 = m := by omega
            rw [e]
            refine Ev.shift ?_
            simp only [gimballaw23_FrameBegins.l1, if_pos (show (m : Int) ≥ 0 by omega)]
            cases decide ((m : Int) > wrap64 ((bs.length : Int) - 40)) with
            | false => exact dec2 _ _
            | true =>
              refine Ev.shift ?_
              have hm0 : (0 : Int) ≤ (m : Int) := by omega
              have hm1 : (m : Int) ≤ (bs.length : Int) := by omega
              simp only [gimballaw23_FrameBegins.j3, if_true, hm0, hm1, Int.toNat_natCast]
              refine Ev.bind (begins_ev (hb.take m) (by simp; omega)) ?_
              have nx := ihm (begins (bs.take m)) (by omega) rfl
              have w2 : wrap64 ((m : Int) - 1) = (m : Int) - 1 := wrap64_id (by omega) (by omega)
              simp only [w2]
              cases hb1 : is with
              | false => simpa using nx
              | true =>
                have hbt : begins (bs.take m) = true := by
                  have := begins_take (n := m) (hb.take (m + 1)) (by simp; omega) (by rw [← his]; exact hb1)
                  rwa [List.take_take, Nat.min_eq_left (by omega)] at this
                rw [hbt] at nx ⊢
                simpa using nx
        have w3 : wrap64 ((bs.length : Int) - 1) = (bs.length : Int) - 1 := wrap64_id (by omega) (by omega)
        rw [w3]
        exact loop bs.length (begins bs) (by omega) (by rw [List.take_length])
      · rw [decide_eq_false hc]
        exact fin i
    · simp only [hl, if_false]
      exact fin i

theorem pure : Pure := by
  intro l h
  exact Ev.rounds (l0_ev l h.2 h.1 l.length 0 (by omega) (by omega) (by omega))
end Go.Proofs.Ytaeabemipnbgbaa.frameBegins
