/- Whole numbers as limbs of 64 bits: what a magnitude's limbs are, and what a number in memory reads as. -/
import Derived.Test.YthokdnheijnmmaaWWords
import Derived.Test.YthokdnheijnmmaaWMore
import Derived.Test.YthokdnheijnmmaaOAid
set_option linter.unusedVariables false
namespace Go.Proofs.YthokdnheijnmmaaW.Big
open Go.RowKit Go.Proofs.YthokdnheijnmmaaW.PrintWords Go.Proofs.YthokdnheijnmmaaW.PrintMore Go.Proofs.YthokdnheijnmmaaW.Aid

/-- A magnitude's limbs, the lowest first, none of 0 on top. -/
def limbs (n : Nat) : List Int := if h : n = 0 then [] else ((n % 18446744073709551616 : Nat) : Int) :: limbs (n / 18446744073709551616)
termination_by n
decreasing_by omega
/-- The number of a row of limbs. -/
def val : List Int → Nat
  | [] => 0
  | x :: r => x.toNat + 18446744073709551616 * val r
theorem limbs_zero : limbs 0 = [] := by rw [limbs]; simp
theorem limbs_pos {n : Nat} (h : n ≠ 0) : limbs n = ((n % 18446744073709551616 : Nat) : Int) :: limbs (n / 18446744073709551616) := by rw [limbs]; simp [h]
theorem val_limbs (n : Nat) : val (limbs n) = n := by
  induction n using Nat.strongRecOn with
  | _ n ih =>
    by_cases h : n = 0
    · subst h; rw [limbs_zero]; rfl
    · rw [limbs_pos h, val, ih _ (by omega)]
      omega
/-- A row that is some magnitude's limbs. -/
def Dig (l : List Int) : Prop := ∀ x ∈ l, 0 ≤ x ∧ x < 18446744073709551616
def Canon (l : List Int) : Prop := Dig l ∧ (∀ h : l ≠ [], l.getLast h ≠ 0)
theorem limbs_dig (n : Nat) : Dig (limbs n) := by
  induction n using Nat.strongRecOn with
  | _ n ih =>
    by_cases h : n = 0
    · subst h; rw [limbs_zero]; intro x hx; simp at hx
    · rw [limbs_pos h]
      intro x hx
      rcases List.mem_cons.1 hx with rfl | hx
      · omega
      · exact ih _ (by omega) x hx
theorem limbs_ne {n : Nat} : limbs n = [] ↔ n = 0 := by
  constructor
  · intro h
    have := val_limbs n
    rw [h] at this
    exact this.symm
  · rintro rfl; exact limbs_zero
theorem limbs_canon (n : Nat) : Canon (limbs n) := by
  refine ⟨limbs_dig n, ?_⟩
  induction n using Nat.strongRecOn with
  | _ n ih =>
    intro h
    have hn : n ≠ 0 := fun e => h (limbs_ne.2 e)
    simp only [limbs_pos hn]
    by_cases hq : n / 18446744073709551616 = 0
    · simp only [hq, limbs_zero, List.getLast_singleton]
      omega
    · have hne : limbs (n / 18446744073709551616) ≠ [] := fun e => hq (limbs_ne.1 e)
      rw [List.getLast_cons hne]
      exact ih _ (by omega) hne
theorem Canon.limbs {l : List Int} (h : Canon l) : l = limbs (val l) := by
  induction l with
  | nil => rw [val, limbs_zero]
  | cons x r ih =>
    have hx := h.1 x (by simp)
    have hr : Canon r := ⟨fun y hy => h.1 y (List.mem_cons_of_mem _ hy), fun hne => by have := h.2 (by simp); rw [List.getLast_cons hne] at this; exact this⟩
    have hv : val (x :: r) ≠ 0 := by
      intro e
      simp only [val] at e
      cases r with
      | nil => have := h.2 (by simp); simp at this; omega
      | cons y r' =>
        have : Big.limbs (val (y :: r')) = [] := limbs_ne.2 (by omega)
        rw [← ih hr] at this
        simp at this
    rw [limbs_pos hv]
    have e1 : val (x :: r) % 18446744073709551616 = x.toNat := by simp only [val]; omega
    have e2 : val (x :: r) / 18446744073709551616 = val r := by simp only [val]; omega
    rw [e1, e2, ← ih hr]
    congr 1
    omega
theorem limbs_len {n k : Nat} (h : n < 18446744073709551616 ^ k) : (limbs n).length ≤ k := by
  induction k generalizing n with
  | zero => have : n = 0 := by simpa using h
            subst this; simp [limbs_zero]
  | succ k ih =>
    by_cases hn : n = 0
    · subst hn; simp [limbs_zero]
    · rw [limbs_pos hn, List.length_cons]
      have : n / 18446744073709551616 < 18446744073709551616 ^ k := by
        rw [Nat.div_lt_iff_lt_mul (by omega)]
        rw [Nat.pow_succ] at h
        exact h
      have := ih this
      omega
theorem lt_limbs (n : Nat) : n < 18446744073709551616 ^ (limbs n).length := by
  induction n using Nat.strongRecOn with
  | _ n ih =>
    by_cases h : n = 0
    · subst h; simp [limbs_zero]
    · rw [limbs_pos h, List.length_cons, Nat.pow_succ]
      have := ih (n / 18446744073709551616) (by omega)
      rw [Nat.div_lt_iff_lt_mul (by omega)] at this
      exact this
/-- The sign, and the magnitude's limbs. -/
def sgn (x : Int) : Bool := decide (x < 0)
def lm (x : Int) : List Int := limbs x.natAbs
/-- A slice that reads as these limbs. -/
def Rd (w : World) (l : List Int) (A : Option Addr) (c : Nat) : Prop := l.length ≤ c ∧ Kd.C (Kd.int .u64) w A l.length l
theorem Rd.below {w w1 : World} {l : List Int} {A : Option Addr} {c : Nat} (h : Rd w l A c) (hb : Below w.heap.size w w1) : Rd w1 l A c := ⟨h.1, Kd.C_below h.2 hb⟩
theorem Rd.nil (w : World) : Rd w [] none 0 := ⟨Nat.le_refl _, Kd.C_nil _ _⟩
end Go.Proofs.YthokdnheijnmmaaW.Big
