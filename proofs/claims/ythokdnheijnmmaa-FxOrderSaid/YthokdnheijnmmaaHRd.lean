/- Rounding to the nearest: the laws of roundP. -/
import Derived.Test.YthokdnheijnmmaaHFw
import Derived.Test.YthokdnheijnmmaaHFxMul
set_option linter.unusedVariables false
set_option linter.unusedSimpArgs false
namespace Go.Proofs.Ythokdnheijnmmaa.Wh
open Go.Proofs.Ythokdnheijnmmaa.FxWalk
/-- r is x / c rounded to the nearest, of two as near the even one. -/
def RN (x c r : Int) : Prop := (2 * (x - c * r) < c ∧ -c < 2 * (x - c * r)) ∨ ((2 * (x - c * r) = c ∨ 2 * (x - c * r) = -c) ∧ r % 2 = 0)
theorem rn_round {x c : Int} (hc : 0 < c) : RN x c (roundP x c) := by
  have e := Int.emod_add_mul_ediv x c
  have h0 := Int.emod_nonneg x (by omega : c ≠ 0)
  have h1 := Int.emod_lt_of_pos x hc
  unfold RN roundP
  generalize x % c = m at *
  generalize x / c = q at *
  split
  · rename_i h
    rw [Int.mul_add]
    generalize c * q = p at *
    rcases h with h | h <;> omega
  · rename_i h
    generalize c * q = p at *
    omega
theorem rn_mono {x y c r s : Int} (hc : 0 < c) (hx : RN x c r) (hy : RN y c s) (h : x ≤ y) : r ≤ s := by
  by_cases hrs : r ≤ s
  · exact hrs
  · exfalso
    obtain ⟨d, rfl⟩ : ∃ d, r = s + 1 + d := ⟨r - s - 1, by omega⟩
    have hd : 0 ≤ c * d := Int.mul_nonneg (by omega) (by omega)
    unfold RN at hx hy
    rw [Int.mul_add, Int.mul_add] at hx
    by_cases h0 : d = 0
    · subst h0
      generalize c * s = p at *
      omega
    · have hd' : c ≤ c * d := by
        have := Int.mul_le_mul_of_nonneg_left (show (1 : Int) ≤ d by omega) (show 0 ≤ c by omega)
        omega
      generalize c * s = p at *
      generalize c * d = t at *
      omega
theorem rn_eq {x c r s : Int} (hc : 0 < c) (hx : RN x c r) (hy : RN x c s) : r = s :=
  Int.le_antisymm (rn_mono hc hx hy (Int.le_refl _)) (rn_mono hc hy hx (Int.le_refl _))
theorem rn_neg {x c r : Int} (h : RN x c r) : RN (-x) c (-r) := by
  unfold RN at h ⊢
  rw [Int.mul_neg]
  generalize c * r = p at *
  omega
theorem roundP_mono {x y c : Int} (hc : 0 < c) (h : x ≤ y) : roundP x c ≤ roundP y c := rn_mono hc (rn_round hc) (rn_round hc) h
theorem roundP_neg {x c : Int} (hc : 0 < c) : roundP (-x) c = -roundP x c := rn_eq hc (rn_round hc) (rn_neg (rn_round hc))
theorem roundP_scale {x c k : Int} (hk : 0 < k) (hc : 0 < c) : roundP (k * x) (k * c) = roundP x c := by
  unfold roundP
  rw [Int.mul_ediv_mul_of_pos _ _ hk, Int.mul_emod_mul_of_pos _ _ hk]
  have e : 2 * (k * (x % c)) = k * (2 * (x % c)) := by rw [← Int.mul_assoc, Int.mul_comm 2 k, Int.mul_assoc]
  rw [e]
  have g1 : (k * (2 * (x % c)) > k * c) ↔ 2 * (x % c) > c := Int.mul_lt_mul_left hk
  have g2 : (k * (2 * (x % c)) = k * c) ↔ 2 * (x % c) = c := Int.mul_eq_mul_left_iff (by omega)
  simp only [g1, g2]
theorem roundP_one_pos {x c : Int} (hc : 0 < c) (hx : 0 ≤ x) : 0 ≤ roundP x c ∧ roundP x c ≤ x := by
  have h := rn_round (x := x) hc
  have z : RN 0 c 0 := by unfold RN; simp only [Int.mul_zero]; omega
  refine ⟨rn_mono hc z h hx, ?_⟩
  by_cases h1 : c = 1
  · subst h1
    have : RN x 1 x := by unfold RN; omega
    exact Int.le_of_eq (rn_eq (by decide) h this)
  · -- c from 2 on: r c lies within c/2 of x
    by_cases hr : roundP x c ≤ x
    · exact hr
    · exfalso
      generalize roundP x c = r at *
      obtain ⟨d, rfl⟩ : ∃ d, r = x + 1 + d := ⟨r - x - 1, by omega⟩
      have hd : 0 ≤ c * d := Int.mul_nonneg (by omega) (by omega)
      have hcx : 2 * x ≤ c * x := Int.mul_le_mul_of_nonneg_right (by omega) hx
      unfold RN at h
      rw [Int.mul_add, Int.mul_add] at h
      generalize c * x = p at *
      generalize c * d = t at *
      omega
theorem roundP_abs {x c : Int} (hc : 0 < c) : (0 ≤ x → 0 ≤ roundP x c ∧ roundP x c ≤ x) ∧ (x ≤ 0 → x ≤ roundP x c ∧ roundP x c ≤ 0) := by
  refine ⟨roundP_one_pos hc, fun h => ?_⟩
  have := roundP_one_pos (x := -x) hc (by omega)
  rw [roundP_neg hc] at this
  omega
theorem roundI_pos {x c : Int} (hc : 0 < c) : roundI x c = roundP x c := by
  unfold roundI; rw [if_neg (by omega)]
theorem roundI_neg {x c : Int} (hc : c ≠ 0) : roundI (-x) (-c) = roundI x c := by
  unfold roundI
  rcases Int.lt_trichotomy c 0 with h | h | h
  · rw [if_neg (by omega), if_pos h]
  · exact absurd h hc
  · rw [if_pos (by omega), if_neg (by omega), Int.neg_neg, Int.neg_neg]
theorem rnd30_eq {P : Int} : rnd30 P = roundP P 1073741824 := by
  unfold rnd30 roundP
  by_cases h : P % 1073741824 > 536870912 ∨ (P % 1073741824 = 536870912 ∧ P / 1073741824 % 2 = 1)
  · rw [if_pos h, if_pos (by omega)]
  · rw [if_neg h, if_neg (by omega), Int.add_zero]
theorem mul_ab {a b : Int} : ab a * ab b = if (!(decide (a < 0) == decide (b < 0))) = true then -(a * b) else a * b := by
  unfold ab
  by_cases ha : a < 0 <;> by_cases hb : b < 0
  · rw [show (a.natAbs : Int) = -a by omega, show (b.natAbs : Int) = -b by omega]; simp [ha, hb, Int.neg_mul, Int.mul_neg]
  · rw [show (a.natAbs : Int) = -a by omega, show (b.natAbs : Int) = b by omega]; simp [ha, hb, Int.neg_mul, Int.mul_neg]
  · rw [show (a.natAbs : Int) = a by omega, show (b.natAbs : Int) = -b by omega]; simp [ha, hb, Int.neg_mul, Int.mul_neg]
  · rw [show (a.natAbs : Int) = a by omega, show (b.natAbs : Int) = b by omega]; simp [ha, hb, Int.neg_mul, Int.mul_neg]
/-- Mul's answer is the product rounded, told as a word. -/
theorem timesR_eq {a b : Int} : timesR a b = toldR (roundP (a * b) 1073741824) := by
  unfold timesR
  rw [rnd30_eq]
  have hp : 0 ≤ ab a * ab b := Int.mul_nonneg (by unfold ab; omega) (by unfold ab; omega)
  have e := mul_ab (a := a) (b := b)
  generalize (!(decide (a < 0) == decide (b < 0))) = n at *
  generalize ab a * ab b = P at *
  have h0 := ((roundP_abs (x := P) (c := 1073741824) (by decide)).1 hp).1
  cases n with
  | true =>
    rw [if_pos rfl] at e
    have e2 : a * b = -P := by omega
    rw [e2, roundP_neg (by decide)]
    generalize roundP P 1073741824 = r at *
    unfold signR toldR
    by_cases h : r < 35184372088832
    · rw [if_pos h, if_pos rfl, if_pos (wd_iff.2 (by omega))]
    · rw [if_neg h, if_neg (by rw [wd_iff]; omega)]
  | false =>
    rw [if_neg (by decide)] at e
    rw [← e]
    generalize roundP P 1073741824 = r at *
    unfold signR toldR
    by_cases h : r < 35184372088832
    · rw [if_pos h, if_neg (by decide), if_pos (wd_iff.2 (by omega))]
    · rw [if_neg h, if_neg (by rw [wd_iff]; omega)]
theorem told_ok {x : Int} (h : (toldR x).2 = 0) : (toldR x).1 = x := by
  unfold toldR at h ⊢
  split
  · rfl
  · rename_i hc; rw [if_neg hc] at h; cases h
theorem told_wd {x : Int} (h : wd x = true) : toldR x = (x, 0) := by unfold toldR; rw [if_pos h]
end Go.Proofs.Ythokdnheijnmmaa.Wh
