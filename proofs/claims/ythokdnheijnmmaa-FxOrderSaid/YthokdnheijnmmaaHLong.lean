/- Long division of two words by a word: the guesses, and what comes out of them. -/
import Derived.Test.YthokdnheijnmmaaHBits
set_option linter.unusedVariables false
namespace Go.Proofs.Ythokdnheijnmmaa.Long
open Go.RowKit Go.Proofs.YthokdnheijnmmaaW.PrintWords Go.Proofs.YthokdnheijnmmaaW.Aid

/-- The divisor's two halves, the dividend's three. -/
structure Ctx (u d y1 y0 : Int) : Prop where
  a : 2147483648 ≤ y1
  b : y1 < 4294967296
  c : 0 ≤ y0
  e : y0 < 4294967296
  f : 0 ≤ d
  g : d < 4294967296
  h : 0 ≤ u
  i : u < y1 * 4294967296 + y0
/-- A guess that is not too small. -/
structure Guess (u d y1 y0 q r : Int) : Prop where
  q0 : 0 ≤ q
  q1 : q ≤ 4294967297
  r0 : 0 ≤ r
  r1 : r < 4294967296
  eq : q * y1 + r = u
  hi : u * 4294967296 + d < (q + 1) * (y1 * 4294967296 + y0)
/-- The quotient. -/
structure Quo (u d y1 y0 q : Int) : Prop where
  q0 : 0 ≤ q
  q1 : q < 4294967296
  lo : q * (y1 * 4294967296 + y0) ≤ u * 4294967296 + d
  hi : u * 4294967296 + d < (q + 1) * (y1 * 4294967296 + y0)
theorem mul_parts (q y1 y0 : Int) : q * (y1 * 4294967296 + y0) = q * y1 * 4294967296 + q * y0 := by rw [Int.mul_add, Int.mul_assoc]
theorem start {u d y1 y0 : Int} (C : Ctx u d y1 y0) : Guess u d y1 y0 (u / y1) (u - u / y1 * y1) := by
  obtain ⟨a, b, c, e, f, g, h, i⟩ := C
  have hy : 0 < y1 := by omega
  have e1 : u / y1 * y1 + u % y1 = u := by rw [Int.mul_comm]; exact Int.mul_ediv_add_emod u y1
  have e2 := Int.emod_nonneg u (b := y1) (by omega)
  have e3 := Int.emod_lt_of_pos u hy
  have e4 : 0 ≤ u / y1 := Int.ediv_nonneg h (by omega)
  have e5 : u / y1 ≤ 4294967297 := by
    rcases Int.lt_or_le 4294967297 (u / y1) with hq | hq
    · have := Int.mul_le_mul_of_nonneg_right (show (4294967298 : Int) ≤ u / y1 by omega) (show 0 ≤ y1 by omega)
      omega
    · exact hq
  refine ⟨e4, e5, by omega, by omega, by omega, ?_⟩
  rw [Int.add_mul, Int.one_mul, mul_parts]
  have e6 : 0 ≤ u / y1 * y0 := Int.mul_nonneg e4 c
  generalize u / y1 * y1 = p at *
  generalize u / y1 * y0 = p0 at *
  omega
theorem stop {u d y1 y0 q r : Int} (C : Ctx u d y1 y0) (G : Guess u d y1 y0 q r) (h1 : q < 4294967296) (h2 : q * y0 ≤ 4294967296 * r + d) : Quo u d y1 y0 q := by
  obtain ⟨a, b, c, e, f, g, h, i⟩ := C
  obtain ⟨k0, k1, k2, k3, k4, k5⟩ := G
  refine ⟨k0, h1, ?_, k5⟩
  rw [mul_parts]
  generalize q * y1 = p at *
  generalize q * y0 = p0 at *
  omega
theorem down {u d y1 y0 q r : Int} (C : Ctx u d y1 y0) (G : Guess u d y1 y0 q r) (h1 : 4294967296 ≤ q ∨ 4294967296 * r + d < q * y0) :
    0 < q ∧ (r + y1 < 4294967296 → Guess u d y1 y0 (q - 1) (r + y1)) ∧ (4294967296 ≤ r + y1 → Quo u d y1 y0 (q - 1)) := by
  obtain ⟨a, b, c, e, f, g, h, i⟩ := C
  obtain ⟨k0, k1, k2, k3, k4, k5⟩ := G
  have hq : 0 < q := by
    rcases h1 with h1 | h1
    · omega
    · rcases Int.lt_or_le 0 q with hq | hq
      · exact hq
      · have : q = 0 := by omega
        subst this
        omega
  have hlt : u * 4294967296 + d < q * (y1 * 4294967296 + y0) := by
    rcases h1 with h1 | h1
    · have := Int.mul_le_mul_of_nonneg_right h1 (show 0 ≤ y1 * 4294967296 + y0 by omega)
      omega
    · rw [mul_parts]
      generalize q * y1 = p at *
      generalize q * y0 = p0 at *
      omega
  have e1 : (q - 1) * y1 = q * y1 - y1 := by rw [Int.sub_mul, Int.one_mul]
  have e2 : (q - 1 + 1) = q := by omega
  refine ⟨hq, fun hr => ⟨by omega, by omega, by omega, by omega, by rw [e1]; omega, by rw [e2]; exact hlt⟩, fun hr => ?_⟩
  have hqb : q - 1 < 4294967296 := by
    rcases Int.lt_or_le (q - 1) 4294967296 with hh | hh
    · exact hh
    · have := Int.mul_le_mul_of_nonneg_right hh (show 0 ≤ y1 by omega)
      omega
  refine ⟨by omega, hqb, ?_, by rw [e2]; exact hlt⟩
  have e3 := Int.mul_le_mul (show q - 1 ≤ 4294967295 by omega) (show y0 ≤ 4294967295 by omega) c (by omega)
  rw [mul_parts, e1]
  generalize q * y1 = p at *
  generalize (q - 1) * y0 = p0 at *
  omega
/-- Of two quotients, one behind the other. -/
theorem both {u d1 d0 y1 y0 q1 q0 v : Int} (C : Ctx u d1 y1 y0) (Q1 : Quo u d1 y1 y0 q1) (hv : v = u * 4294967296 + d1 - q1 * (y1 * 4294967296 + y0)) (Q0 : Quo v d0 y1 y0 q0) :
    0 ≤ v * 4294967296 + d0 - q0 * (y1 * 4294967296 + y0) ∧ v * 4294967296 + d0 - q0 * (y1 * 4294967296 + y0) < y1 * 4294967296 + y0 ∧
      u * 18446744073709551616 + (d1 * 4294967296 + d0) = (q1 * 4294967296 + q0) * (y1 * 4294967296 + y0) + (v * 4294967296 + d0 - q0 * (y1 * 4294967296 + y0)) := by
  obtain ⟨a1, a2, a3, a4⟩ := Q1
  obtain ⟨b1, b2, b3, b4⟩ := Q0
  rw [Int.add_mul, Int.one_mul] at b4
  refine ⟨by omega, by omega, ?_⟩
  rw [Int.add_mul, Int.mul_assoc, Int.mul_comm 4294967296, ← Int.mul_assoc, hv]
  omega
theorem nextCtx {u d1 d0 y1 y0 q1 : Int} (C : Ctx u d1 y1 y0) (Q1 : Quo u d1 y1 y0 q1) (h0 : 0 ≤ d0) (h1 : d0 < 4294967296) : Ctx (u * 4294967296 + d1 - q1 * (y1 * 4294967296 + y0)) d0 y1 y0 := by
  obtain ⟨a1, a2, a3, a4⟩ := Q1
  obtain ⟨a, b, c, e, f, g, h, i⟩ := C
  rw [Int.add_mul, Int.one_mul] at a4
  exact ⟨a, b, c, e, h0, h1, by omega, by omega⟩
/-- Shifted by a power. -/
theorem unshift {hi lo y S u low Q R : Int} (hS : 0 < S) (hy : 0 < y) (e1 : (hi * 18446744073709551616 + lo) * S = u * 18446744073709551616 + low) (e2 : u * 18446744073709551616 + low = Q * (y * S) + R) (h0 : 0 ≤ R) (h1 : R < y * S) :
    Q = (hi * 18446744073709551616 + lo) / y ∧ R / S = (hi * 18446744073709551616 + lo) % y := by
  generalize hi * 18446744073709551616 + lo = N at *
  have e3 : (N - Q * y) * S = R := by rw [Int.sub_mul, Int.mul_assoc]; omega
  have e4 : R / S = N - Q * y := by rw [← e3]; exact Int.mul_ediv_cancel _ (by omega)
  have h2 : 0 ≤ N - Q * y := by rw [← e4]; exact Int.ediv_nonneg h0 (by omega)
  have h3 : N - Q * y < y := by
    rw [← e4]
    exact Int.ediv_lt_of_lt_mul hS h1
  have e5 : N = (N - Q * y) + y * Q := by rw [Int.mul_comm y Q]; omega
  constructor
  · conv => rhs; rw [e5]
    rw [Int.add_mul_ediv_left _ _ (by omega), Int.ediv_eq_zero_of_lt h2 h3]
    omega
  · rw [e4]
    conv => rhs; rw [e5]
    rw [Int.add_mul_emod_self_left, Int.emod_eq_of_lt h2 h3]
end Go.Proofs.Ythokdnheijnmmaa.Long
