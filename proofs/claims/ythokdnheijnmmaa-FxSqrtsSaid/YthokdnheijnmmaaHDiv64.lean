/- HDiv64: HLong, HLen, HDiv64 in one text. -/
import Derived.Test.YthokdnheijnmmaaHBits
import Derived.Shelf.Small.Bits
import Derived.Lib.ItoaNum
import Derived.Deep.CutBlock
import Derived.Deep.DeepCutAuto
/- HLong. -/
set_option linter.unusedVariables false
namespace Go.Proofs.Ythokdnheijnmmaa.Long
open Go.RowKit Go.Proofs.YthokdnheijnmmaaW.PrintWords Go.Proofs.YthokdnheijnmmaaW.Aid

/-- The divisor's two halves, the dividend's three. -/
structure Ctx (u d y1 y0 : Int) : Prop where
  a : 2147483648 ≤ y1
  b : y1 < 4294967296
  c : 0 ≤ y0
  e : y0 < 4294967296
  f : 0 ≤ d
  g : d < 4294967296
  h : 0 ≤ u
  i : u < y1 * 4294967296 + y0
/-- A guess that is not too small. -/
structure Guess (u d y1 y0 q r : Int) : Prop where
  q0 : 0 ≤ q
  q1 : q ≤ 4294967297
  r0 : 0 ≤ r
  r1 : r < 4294967296
  eq : q * y1 + r = u
  hi : u * 4294967296 + d < (q + 1) * (y1 * 4294967296 + y0)
/-- The quotient. -/
structure Quo (u d y1 y0 q : Int) : Prop where
  q0 : 0 ≤ q
  q1 : q < 4294967296
  lo : q * (y1 * 4294967296 + y0) ≤ u * 4294967296 + d
  hi : u * 4294967296 + d < (q + 1) * (y1 * 4294967296 + y0)
theorem mul_parts (q y1 y0 : Int) : q * (y1 * 4294967296 + y0) = q * y1 * 4294967296 + q * y0 := by rw [Int.mul_add, Int.mul_assoc]
theorem start {u d y1 y0 : Int} (C : Ctx u d y1 y0) : Guess u d y1 y0 (u / y1) (u - u / y1 * y1) := by
  obtain ⟨a, b, c, e, f, g, h, i⟩ := C
  have hy : 0 < y1 := by omega
  have e1 : u / y1 * y1 + u % y1 = u := by rw [Int.mul_comm]; exact Int.mul_ediv_add_emod u y1
  have e2 := Int.emod_nonneg u (b := y1) (by omega)
  have e3 := Int.emod_lt_of_pos u hy
  have e4 : 0 ≤ u / y1 := Int.ediv_nonneg h (by omega)
  have e5 : u / y1 ≤ 4294967297 := by
    rcases Int.lt_or_le 4294967297 (u / y1) with hq | hq
    · have := Int.mul_le_mul_of_nonneg_right (show (4294967298 : Int) ≤ u / y1 by omega) (show 0 ≤ y1 by omega)
      omega
    · exact hq
  refine ⟨e4, e5, by omega, by omega, by omega, ?_⟩
  rw [Int.add_mul, Int.one_mul, mul_parts]
  have e6 : 0 ≤ u / y1 * y0 := Int.mul_nonneg e4 c
  generalize u / y1 * y1 = p at *
  generalize u / y1 * y0 = p0 at *
  omega
theorem stop {u d y1 y0 q r : Int} (C : Ctx u d y1 y0) (G : Guess u d y1 y0 q r) (h1 : q < 4294967296) (h2 : q * y0 ≤ 4294967296 * r + d) : Quo u d y1 y0 q := by
  obtain ⟨a, b, c, e, f, g, h, i⟩ := C
  obtain ⟨k0, k1, k2, k3, k4, k5⟩ := G
  refine ⟨k0, h1, ?_, k5⟩
  rw [mul_parts]
  generalize q * y1 = p at *
  generalize q * y0 = p0 at *
  omega
theorem down {u d y1 y0 q r : Int} (C : Ctx u d y1 y0) (G : Guess u d y1 y0 q r) (h1 : 4294967296 ≤ q ∨ 4294967296 * r + d < q * y0) :
    0 < q ∧ (r + y1 < 4294967296 → Guess u d y1 y0 (q - 1) (r + y1)) ∧ (4294967296 ≤ r + y1 → Quo u d y1 y0 (q - 1)) := by
  obtain ⟨a, b, c, e, f, g, h, i⟩ := C
  obtain ⟨k0, k1, k2, k3, k4, k5⟩ := G
  have hq : 0 < q := by
    rcases h1 with h1 | h1
    · omega
    · rcases Int.lt_or_le 0 q with hq | hq
      · exact hq
      · have : q = 0 := by omega
        subst this
        omega
  have hlt : u * 4294967296 + d < q * (y1 * 4294967296 + y0) := by
    rcases h1 with h1 | h1
    · have := Int.mul_le_mul_of_nonneg_right h1 (show 0 ≤ y1 * 4294967296 + y0 by omega)
      omega
    · rw [mul_parts]
      generalize q * y1 = p at *
      generalize q * y0 = p0 at *
      omega
  have e1 : (q - 1) * y1 = q * y1 - y1 := by rw [Int.sub_mul, Int.one_mul]
  have e2 : (q - 1 + 1) = q := by omega
  refine ⟨hq, fun hr => ⟨by omega, by omega, by omega, by omega, by rw [e1]; omega, by rw [e2]; exact hlt⟩, fun hr => ?_⟩
  have hqb : q - 1 < 4294967296 := by
    rcases Int.lt_or_le (q - 1) 4294967296 with hh | hh
    · exact hh
    · have := Int.mul_le_mul_of_nonneg_right hh (show 0 ≤ y1 by omega)
      omega
  refine ⟨by omega, hqb, ?_, by rw [e2]; exact hlt⟩
  have e3 := Int.mul_le_mul (show q - 1 ≤ 4294967295 by omega) (show y0 ≤ 4294967295 by omega) c (by omega)
  rw [mul_parts, e1]
  generalize q * y1 = p at *
  generalize (q - 1) * y0 = p0 at *
  omega
/-- Of two quotients, one behind the other. -/
theorem both {u d1 d0 y1 y0 q1 q0 v : Int} (C : Ctx u d1 y1 y0) (Q1 : Quo u d1 y1 y0 q1) (hv : v = u * 4294967296 + d1 - q1 * (y1 * 4294967296 + y0)) (Q0 : Quo v d0 y1 y0 q0) :
    0 ≤ v * 4294967296 + d0 - q0 * (y1 * 4294967296 + y0) ∧ v * 4294967296 + d0 - q0 * (y1 * 4294967296 + y0) < y1 * 4294967296 + y0 ∧
      u * 18446744073709551616 + (d1 * 4294967296 + d0) = (q1 * 4294967296 + q0) * (y1 * 4294967296 + y0) + (v * 4294967296 + d0 - q0 * (y1 * 4294967296 + y0)) := by
  obtain ⟨a1, a2, a3, a4⟩ := Q1
  obtain ⟨b1, b2, b3, b4⟩ := Q0
  rw [Int.add_mul, Int.one_mul] at b4
  refine ⟨by omega, by omega, ?_⟩
  rw [Int.add_mul, Int.mul_assoc, Int.mul_comm 4294967296, ← Int.mul_assoc, hv]
  omega
theorem nextCtx {u d1 d0 y1 y0 q1 : Int} (C : Ctx u d1 y1 y0) (Q1 : Quo u d1 y1 y0 q1) (h0 : 0 ≤ d0) (h1 : d0 < 4294967296) : Ctx (u * 4294967296 + d1 - q1 * (y1 * 4294967296 + y0)) d0 y1 y0 := by
  obtain ⟨a1, a2, a3, a4⟩ := Q1
  obtain ⟨a, b, c, e, f, g, h, i⟩ := C
  rw [Int.add_mul, Int.one_mul] at a4
  exact ⟨a, b, c, e, h0, h1, by omega, by omega⟩
/-- Shifted by a power. -/
theorem unshift {hi lo y S u low Q R : Int} (hS : 0 < S) (hy : 0 < y) (e1 : (hi * 18446744073709551616 + lo) * S = u * 18446744073709551616 + low) (e2 : u * 18446744073709551616 + low = Q * (y * S) + R) (h0 : 0 ≤ R) (h1 : R < y * S) :
    Q = (hi * 18446744073709551616 + lo) / y ∧ R / S = (hi * 18446744073709551616 + lo) % y := by
  generalize hi * 18446744073709551616 + lo = N at *
  have e3 : (N - Q * y) * S = R := by rw [Int.sub_mul, Int.mul_assoc]; omega
  have e4 : R / S = N - Q * y := by rw [← e3]; exact Int.mul_ediv_cancel _ (by omega)
  have h2 : 0 ≤ N - Q * y := by rw [← e4]; exact Int.ediv_nonneg h0 (by omega)
  have h3 : N - Q * y < y := by
    rw [← e4]
    exact Int.ediv_lt_of_lt_mul hS h1
  have e5 : N = (N - Q * y) + y * Q := by rw [Int.mul_comm y Q]; omega
  constructor
  · conv => rhs; rw [e5]
    rw [Int.add_mul_ediv_left _ _ (by omega), Int.ediv_eq_zero_of_lt h2 h3]
    omega
  · rw [e4]
    conv => rhs; rw [e5]
    rw [Int.add_mul_emod_self_left, Int.emod_eq_of_lt h2 h3]
end Go.Proofs.Ythokdnheijnmmaa.Long
/- HLen. -/
set_option linter.unusedVariables false
namespace Go.Proofs.Ythokdnheijnmmaa.Long
open Go.RowKit Go.Shelf Go.Proofs.YthokdnheijnmmaaW.PrintWords Go.Proofs.YthokdnheijnmmaaW.Aid
def ren : Ren := ⟨fun n => if n = 129 then 115 else if n = 134 then 124 else 0, fun n => if n = 3 then 3 else if n = 4 then 4 else if n = 5 then 5 else if n = 9 then 9 else if n = 46 then 83 else if n = 53 then 76 else 0, fun n => n⟩
theorem lays129 : Lays.n129 Try.prog ren where
  mixed := by kernel_rfl
  f129 := by kernel_rfl
  t3 := by kernel_rfl
  a3 := fun _ => by kernel_rfl
  z3 := fun _ => by kernel_rfl
  v3 := fun _ => by kernel_rfl
  t4 := by kernel_rfl
  a4 := fun _ => by kernel_rfl
  z4 := fun _ => by kernel_rfl
  v4 := fun _ => by kernel_rfl
  t5 := by kernel_rfl
  a5 := fun _ => by kernel_rfl
  z5 := fun _ => by kernel_rfl
  v5 := fun _ => by kernel_rfl
  t9 := by kernel_rfl
  a9 := fun _ => by kernel_rfl
  z9 := fun _ => by kernel_rfl
  v9 := fun _ => by kernel_rfl
  t46 := by kernel_rfl
  a46 := fun _ => by kernel_rfl
  z46 := fun _ => by kernel_rfl
  v46 := fun _ => by kernel_rfl
  t53 := by kernel_rfl
  a53 := fun _ => by kernel_rfl
  z53 := fun _ => by kernel_rfl
  v53 := fun _ => by kernel_rfl
theorem lays134 : Lays.n134 Try.prog ren := { lays129 with f134 := by kernel_rfl }
theorem len64_calls (x : Int) (w : World) (h0 : 0 ≤ x) (h1 : x < 18446744073709551616) :
    Calls Try.prog 115 #[.int .u64 x] w fun e w' => e = .returned (.int .i64 (Lib.bitLen x.toNat)) ∧ w = w' :=
  (Any.bits_Len64 lays129 x w h0 (by omega)).mono fun _ _ h => ⟨h.1, h.2.symm⟩
theorem lead64_calls (x : Int) (w : World) (h0 : 0 ≤ x) (h1 : x < 18446744073709551616) :
    Calls Try.prog 124 #[.int .u64 x] w fun e w' => e = .returned (.int .i64 (64 - (Lib.bitLen x.toNat : Int))) ∧ w = w' :=
  (Any.bits_LeadingZeros64 lays134 x w h0 (by omega)).mono fun _ _ h => ⟨h.1, h.2.symm⟩
end Go.Proofs.Ythokdnheijnmmaa.Long
/- HDiv64. -/
set_option linter.unusedVariables false
namespace Go.Proofs.Ythokdnheijnmmaa.Long
open Go.RowKit Go.Proofs.YthokdnheijnmmaaW.PrintWords Go.Proofs.YthokdnheijnmmaaW.PrintLast Go.Proofs.YthokdnheijnmmaaW.PrintMore Go.Proofs.YthokdnheijnmmaaW.Aid Go.Proofs.Ythokdnheijnmmaa.BitsWalk
section
theorem or_shift (s : Nat) (hs : s < 64) {a b : Int} (ha : 0 ≤ a) (ha1 : a * 2 ^ s < 18446744073709551616) (hb : 0 ≤ b) (hb1 : b < 2 ^ s) : Go.bits .or .u64 (a * 2 ^ s) b = a * 2 ^ s + b := by
  have hp : (0 : Int) < 2 ^ s := Int.pow_pos (by omega)
  have e : (2 : Int) ^ s ≤ 2 ^ 63 := by exact_mod_cast Nat.pow_le_pow_right (by omega) (show s ≤ 63 by omega)
  refine bits_join .u64 64 (by decide) wraps_u64 s (a * 2 ^ s) b (Int.mul_nonneg ha (by omega)) ?_ ?_ hb hb1 ?_
  · exact Int.mul_emod_left _ _
  · omega
  · omega
/-- What the dividend and the divisor are, shifted. -/
theorem prep (hi lo y : Int) (h0 : 0 < hi) (h1 : hi < y) (h2 : 0 ≤ lo) (h3 : lo < 18446744073709551616) (h5 : y < 18446744073709551616) :
    ∃ (s : Nat) (Y y1 y0 u L d1 d0 : Int), (64 - (Go.Lib.bitLen y.toNat : Int)) = (s : Int) ∧ s < 64 ∧ IntKind.u64.wrap (y * 2 ^ s) = Y ∧ Y / 4294967296 = y1 ∧ Go.bits .and .u64 Y 4294967295 = y0 ∧
      Go.bits .or .u64 (IntKind.u64.wrap (hi * 2 ^ s)) (lo / 2 ^ (64 - s)) = u ∧ IntKind.u64.wrap (lo * 2 ^ s) = L ∧ L / 4294967296 = d1 ∧ Go.bits .and .u64 L 4294967295 = d0 ∧ Ctx u d1 y1 y0 ∧
      (0 ≤ d0 ∧ d0 < 4294967296 ∧ Y = y1 * 4294967296 + y0 ∧ Y = y * 2 ^ s ∧ (hi * 18446744073709551616 + lo) * 2 ^ s = u * 18446744073709551616 + (d1 * 4294967296 + d0)) := by
  have hy : 0 < y := by omega
  obtain ⟨a, b, c⟩ := Go.Lib.bitLenAux_bounds 64 y.toNat (by omega) (by omega)
  have d : Go.Lib.bitLen y.toNat ≤ 64 := Go.Lib.bitLen_le y.toNat 64 (by omega) (by omega)
  have e : Go.Lib.bitLenAux 64 y.toNat = Go.Lib.bitLen y.toNat := rfl
  rw [e] at a b c
  generalize Go.Lib.bitLen y.toNat = n at *
  obtain ⟨s, rfl⟩ : ∃ s, n = 64 - s := ⟨64 - n, by omega⟩
  have hs : s < 64 := by omega
  have hS : (0 : Int) < 2 ^ s := Int.pow_pos (by omega)
  have hT : (0 : Int) < 2 ^ (64 - s) := Int.pow_pos (by omega)
  have hST : (2 : Int) ^ s * 2 ^ (64 - s) = 18446744073709551616 := by rw [← Int.pow_add, show s + (64 - s) = 64 by omega]; rfl
  have hY1 : y * 2 ^ s < 18446744073709551616 := by
    have h : y < 2 ^ (64 - s) := by have : (y.toNat : Int) < ((2 ^ (64 - s) : Nat) : Int) := by exact_mod_cast c
                                    rw [Int.toNat_of_nonneg (by omega)] at this; exact_mod_cast this
    rw [← hST, Int.mul_comm (2 ^ s)]
    exact Int.mul_lt_mul_of_pos_right h hS
  have hY0 : 9223372036854775808 ≤ y * 2 ^ s := by
    have h : (2 : Int) ^ (64 - s - 1) ≤ y := by have : ((2 ^ (64 - s - 1) : Nat) : Int) ≤ (y.toNat : Int) := by exact_mod_cast b
                                                rw [Int.toNat_of_nonneg (by omega)] at this; exact_mod_cast this
    have h' := Int.mul_le_mul_of_nonneg_right h (show (0 : Int) ≤ 2 ^ s by omega)
    rw [← Int.pow_add, show 64 - s - 1 + s = 63 by omega] at h'
    exact h'
  have hhi : hi * 2 ^ s + 2 ^ s ≤ y * 2 ^ s := by
    have := Int.mul_le_mul_of_nonneg_right (show hi + 1 ≤ y by omega) (show (0 : Int) ≤ 2 ^ s by omega)
    rw [Int.add_mul, Int.one_mul] at this
    exact this
  have hhi0 : 0 ≤ hi * 2 ^ s := Int.mul_nonneg (by omega) (by omega)
  have hq0 : 0 ≤ lo / 2 ^ (64 - s) := Int.ediv_nonneg h2 (by omega)
  have hq1 : lo / 2 ^ (64 - s) < 2 ^ s := Int.ediv_lt_of_lt_mul hT (by rw [hST]; exact h3)
  have e1 : IntKind.u64.wrap (y * 2 ^ s) = y * 2 ^ s := wraps_u64 _ (by omega) (by omega)
  have e2 : IntKind.u64.wrap (hi * 2 ^ s) = hi * 2 ^ s := wraps_u64 _ (by omega) (by omega)
  have e3 : Go.bits .or .u64 (hi * 2 ^ s) (lo / 2 ^ (64 - s)) = hi * 2 ^ s + lo / 2 ^ (64 - s) := or_shift s hs (by omega) (by omega) hq0 hq1
  have e4 : lo * 2 ^ s = lo / 2 ^ (64 - s) * 18446744073709551616 + lo * 2 ^ s % 18446744073709551616 := by
    have h := Int.mul_ediv_add_emod (lo * 2 ^ s) 18446744073709551616
    have h' : lo * 2 ^ s / 18446744073709551616 = lo / 2 ^ (64 - s) := by
      rw [← hST, Int.mul_comm lo]
      exact Int.mul_ediv_mul_of_pos _ _ hS
    rw [h'] at h
    omega
  have e5 : IntKind.u64.wrap (lo * 2 ^ s) = lo * 2 ^ s % 18446744073709551616 := u64_wrap _
  refine ⟨s, _, _, _, _, _, _, _, by omega, hs, rfl, rfl, rfl, rfl, rfl, rfl, rfl, ?_⟩
  rw [e1, e2, e3, e5, Int.add_mul, Int.mul_assoc hi, Int.mul_comm 18446744073709551616, ← Int.mul_assoc hi]
  generalize lo / 2 ^ (64 - s) = t at *
  generalize hi * 2 ^ s = p at *
  generalize hYY : y * 2 ^ s = Y at *
  generalize hZ : lo * 2 ^ s = Z at *
  rw [and32 (by omega) (by omega), and32 (by omega) (by omega)]
  exact ⟨⟨by omega, by omega, by omega, by omega, by omega, by omega, by omega, by omega⟩, by omega, by omega, by omega, rfl, by omega⟩
theorem first {u d y1 y0 : Int} (C : Ctx u d y1 y0) : ∃ q r : Int, IntKind.u64.wrap (Int.tdiv u y1) = q ∧ IntKind.u64.wrap (u - IntKind.u64.wrap (q * y1)) = r ∧ Guess u d y1 y0 q r := by
  have G := start C
  have h := G.eq
  have h0 := G.r0
  have h1 := G.r1
  have h2 : 0 ≤ u / y1 * y1 := Int.mul_nonneg G.q0 (by have := C.a; omega)
  have c1 := C.b
  have c2 := C.e
  have c3 := C.i
  have hq : IntKind.u64.wrap (Int.tdiv u y1) = u / y1 := by
    rw [Int.tdiv_eq_ediv_of_nonneg C.h, u64_wrap]
    have a := G.q0
    have b := G.q1
    omega
  refine ⟨_, _, hq, ?_, G⟩
  rw [u64_wrap, u64_wrap]
  generalize u / y1 * y1 = p at *
  omega
theorem second {u d1 d0 y1 y0 q1 Y y S N : Int} (C : Ctx u d1 y1 y0) (Q : Quo u d1 y1 y0 q1) (hn : 0 ≤ d0 ∧ d0 < 4294967296 ∧ Y = y1 * 4294967296 + y0 ∧ Y = y * S ∧ N * S = u * 18446744073709551616 + (d1 * 4294967296 + d0)) :
    ∃ v q r : Int, IntKind.u64.wrap (IntKind.u64.wrap (IntKind.u64.wrap (u * 4294967296) + d1) - IntKind.u64.wrap (q1 * Y)) = v ∧ IntKind.u64.wrap (Int.tdiv v y1) = q ∧ IntKind.u64.wrap (v - IntKind.u64.wrap (q * y1)) = r ∧ v = u * 4294967296 + d1 - q1 * (y1 * 4294967296 + y0) ∧ Ctx v d0 y1 y0 ∧ Guess v d0 y1 y0 q r := by
  have C2 := nextCtx C Q hn.1 hn.2.1
  obtain ⟨q, r, a, b, c⟩ := first C2
  refine ⟨_, q, r, ?_, a, b, rfl, C2, c⟩
  have h0 := C2.h
  have h1 := C2.i
  have h2 := C2.b
  have h3 := C2.e
  rw [u64_wrap, u64_wrap, u64_wrap, u64_wrap, hn.2.2.1]
  generalize q1 * (y1 * 4294967296 + y0) = p at *
  omega
theorem final {u v d1 d0 y1 y0 q1 q2 Y hi lo y : Int} {s : Nat} (C : Ctx u d1 y1 y0) (Q : Quo u d1 y1 y0 q1) (hv : v = u * 4294967296 + d1 - q1 * (y1 * 4294967296 + y0)) (Q2 : Quo v d0 y1 y0 q2)
    (hn : 0 ≤ d0 ∧ d0 < 4294967296 ∧ Y = y1 * 4294967296 + y0 ∧ Y = y * 2 ^ s ∧ (hi * 18446744073709551616 + lo) * 2 ^ s = u * 18446744073709551616 + (d1 * 4294967296 + d0)) (h0 : 0 < hi) (h1 : hi < y) :
    IntKind.u64.wrap (IntKind.u64.wrap (q1 * 4294967296) + q2) = (hi * 18446744073709551616 + lo) / y ∧ IntKind.u64.wrap (IntKind.u64.wrap (IntKind.u64.wrap (v * 4294967296) + d0) - IntKind.u64.wrap (q2 * Y)) / 2 ^ s = (hi * 18446744073709551616 + lo) % y := by
  obtain ⟨a, b, c⟩ := both C Q hv Q2
  have hS : (0 : Int) < 2 ^ s := Int.pow_pos (by omega)
  have e := hn.2.2.1
  have h2 := C.b
  have h3 := C.e
  have hU := unshift (hi := hi) (lo := lo) (y := y) (S := 2 ^ s) (low := d1 * 4294967296 + d0) (u := u) (Q := q1 * 4294967296 + q2) (R := v * 4294967296 + d0 - q2 * (y1 * 4294967296 + y0)) hS (by omega) hn.2.2.2.2 (by rw [← hn.2.2.2.1, e]; exact c) a (by rw [← hn.2.2.2.1, e]; exact b)
  have k0 := Q.q0
  have k1 := Q.q1
  have k2 := Q2.q0
  have k3 := Q2.q1
  rw [← hU.1, ← hU.2, e]
  constructor
  · rw [wraps_u64 (q1 * 4294967296) (by omega) (by omega)]
    exact wraps_u64 _ (by omega) (by omega)
  · congr 1
    rw [u64_wrap, u64_wrap, u64_wrap, u64_wrap]
    generalize q2 * (y1 * 4294967296 + y0) = p at *
    omega
set_option maxRecDepth 100000
set_option maxHeartbeats 1000000
theorem div64_zero (lo y : Int) (w : World) (h2 : 0 ≤ lo) (h3 : lo < 18446744073709551616) (h4 : 0 < y) (h5 : y < 18446744073709551616) :
    Calls Try.prog 129 #[.int .u64 0, .int .u64 lo, .int .u64 y] w fun e w' => e = .returned (.tuple #[.int .u64 (lo / y), .int .u64 (lo % y)]) ∧ ∃ n, w' = w.drewN n := by
  have b1 : (y == 0) = false := by simp; omega
  have b2 : decide (y ≤ 0) = false := decide_eq_false (by omega)
  have hy0 : ¬ y = 0 := by omega
  go_enter Try.func129, Try.ntmps129
  go_wp2_with fail
  go_quiet (fail)
  go_wp2
  go_ret2
  exact ⟨rfl, _, rfl⟩
theorem div64_pos (hi lo y : Int) (w : World) (h0 : 0 < hi) (h1 : hi < y) (h2 : 0 ≤ lo) (h3 : lo < 18446744073709551616) (h5 : y < 18446744073709551616) :
    Calls Try.prog 129 #[.int .u64 hi, .int .u64 lo, .int .u64 y] w fun e w' => e = .returned (.tuple #[.int .u64 ((hi * 18446744073709551616 + lo) / y), .int .u64 ((hi * 18446744073709551616 + lo) % y)]) ∧ ∃ n, w' = w.drewN n := by
  have b1 : (y == 0) = false := by simp; omega
  have b2 : decide (y ≤ hi) = false := decide_eq_false (by omega)
  have b3 : (hi == 0) = false := by simp; omega
  have HL := Aside0.mk (lead64_calls y w (by omega) h5)
  obtain ⟨s, Y, y1, y0, u, L, d1, d0, hs, hs64, eY, eY1, eY0, eU, eL, eL1, eL0, hC, hn⟩ := prep hi lo y h0 h1 h2 h3 h5
  rw [hs] at HL
  have HC := Aside0.mk hC
  have HN := Aside0.mk hn
  have hy1 : ¬ y1 = 0 := by have := hC.a; omega
  have hy1b : (y1 == 0) = false := by simp; exact hy1
  obtain ⟨q, r, eq, er, hG⟩ := first hC
  have HG := Aside0.mk hG
  have HH := Aside0.mk (And.intro h0 h1)
  clear hC hn hG hs h0 h1 h2 h3 h5
  go_enter Try.func129, Try.ntmps129
  go_upto_block 0 with (go_at_call 124; refine HL.out.mono ?_; rintro e w1 ⟨rfl, rfl⟩)
  go_cut [15, 16] (fun v15 v16 wx => ∃ q1 : Int, v15 = .int .u64 q1 ∧ Aside0 (Quo u d1 y1 y0 q1) ∧ w = wx)
  case first =>
    go_wp2_with fail
    go_loopw [15, 16] (fun vq vr wr => ∃ q r : Int, vq = .int .u64 q ∧ vr = .int .u64 r ∧ Aside0 (Guess u d1 y1 y0 q r) ∧ w = wr) (fun vq _ _ => (intOf vq).toNat)
    case atStart => exact ⟨q, r, rfl, rfl, HG, rfl⟩
    case round =>
      obtain ⟨q, r, rfl, rfl, hG, rfl⟩ := hrel
      have hq := Aside0.mk (And.intro hG.out.q0 hG.out.q1)
      have hr := Aside0.mk (And.intro hG.out.r0 hG.out.r1)
      have DN : Aside0 ((4294967296 ≤ q ∨ 4294967296 * r + d1 < q * y0) → 0 < q ∧ IntKind.u64.wrap (q - 1) = q - 1 ∧ IntKind.u64.wrap (r + y1) = r + y1 ∧ (r + y1 < 4294967296 → Guess u d1 y1 y0 (q - 1) (r + y1)) ∧ (4294967296 ≤ r + y1 → Quo u d1 y1 y0 (q - 1))) :=
        ⟨fun h => by
          obtain ⟨a, b, c⟩ := down HC.out hG.out h
          have k0 := hq.out
          have k1 := hr.out
          have k2 := HC.out.a
          have k3 := HC.out.b
          exact ⟨a, wraps_u64 _ (by omega) (by omega), wraps_u64 _ (by omega) (by omega), b, c⟩⟩
      by_cases c1 : 4294967296 ≤ q
      · have c1b : decide (4294967296 ≤ q) = true := decide_eq_true c1
        obtain ⟨a, e1, e2, b, c⟩ := DN.out (.inl c1)
        have hb := Aside0.mk b
        have hc := Aside0.mk c
        have ha := Aside0.mk a
        clear a b c
        by_cases c3 : 4294967296 ≤ r + y1
        · have c3b : decide (4294967296 ≤ r + y1) = true := decide_eq_true c3
          have hQ := Aside0.mk (hc.out c3)
          clear hb hc DN c1 c3
          go_wp2_with fail
          go_meet
          case rel => exact ⟨q - 1, rfl, hQ, by trivial⟩
        · have c3b : decide (4294967296 ≤ r + y1) = false := decide_eq_false c3
          have hQ := Aside0.mk (hb.out (by omega))
          clear hb hc DN c1 c3
          go_wp2_with fail
          go_roundw
          case rel => exact ⟨q - 1, r + y1, rfl, rfl, hQ, by trivial⟩
          case measure => simp [intOf]; have := ha.out; omega
      · have c1b : decide (4294967296 ≤ q) = false := decide_eq_false c1
        have hP : IntKind.u64.wrap (q * y0) = q * y0 := by
          have k0 := hq.out
          have h1 := Int.mul_le_mul (show q ≤ 4294967295 by omega) (show y0 ≤ 4294967295 by have := HC.out.e; omega) HC.out.c (by omega)
          exact wraps_u64 _ (Int.mul_nonneg k0.1 HC.out.c) (by omega)
        have hT : IntKind.u64.wrap (IntKind.u64.wrap (4294967296 * r) + d1) = 4294967296 * r + d1 := by
          have k1 := hr.out
          have k2 := HC.out.f
          have k3 := HC.out.g
          rw [wraps_u64 (4294967296 * r) (by omega) (by omega)]
          exact wraps_u64 _ (by omega) (by omega)
        have ST : Aside0 (¬ 4294967296 * r + d1 < q * y0 → Quo u d1 y1 y0 q) := ⟨fun h => stop HC.out hG.out (by omega) (by omega)⟩
        by_cases c2 : 4294967296 * r + d1 < q * y0
        · have c2b : decide (4294967296 * r + d1 < q * y0) = true := decide_eq_true c2
          obtain ⟨a, e1, e2, b, c⟩ := DN.out (.inr c2)
          have hb := Aside0.mk b
          have hc := Aside0.mk c
          have ha := Aside0.mk a
          clear a b c
          by_cases c3 : 4294967296 ≤ r + y1
          · have c3b : decide (4294967296 ≤ r + y1) = true := decide_eq_true c3
            have hQ := Aside0.mk (hc.out c3)
            clear hb hc DN c1 c3
            go_wp2_with fail
            go_meet
            case rel => exact ⟨q - 1, rfl, hQ, by trivial⟩
          · have c3b : decide (4294967296 ≤ r + y1) = false := decide_eq_false c3
            have hQ := Aside0.mk (hb.out (by omega))
            clear hb hc DN c1 c3
            go_wp2_with fail
            go_roundw
            case rel => exact ⟨q - 1, r + y1, rfl, rfl, hQ, by trivial⟩
            case measure => simp [intOf]; have := ha.out; omega
        · have c2b : decide (4294967296 * r + d1 < q * y0) = false := decide_eq_false c2
          have hQ := Aside0.mk (ST.out c2)
          clear DN ST c1 c2
          go_wp2_with fail
          go_meet
          case rel => exact ⟨q, rfl, hQ, by trivial⟩
  case rest =>
    obtain ⟨q1, rfl, hQ1, rfl⟩ := hcut
    obtain ⟨v, q0, r0, ev, eq0, er0, hv, hC2, hG2⟩ := second HC.out hQ1.out HN.out
    have HC2 := Aside0.mk hC2
    have HG2 := Aside0.mk hG2
    have HV := Aside0.mk hv
    clear hC2 hG2 hv HL
    go_upto_block 2 with fail
    go_cut [18, 16] (fun v18 v16 wx => ∃ q2 : Int, v18 = .int .u64 q2 ∧ Aside0 (Quo v d0 y1 y0 q2) ∧ w = wx)
    case first =>
      go_wp2_with fail
      go_loopw [18, 16] (fun vq vr wr => ∃ q r : Int, vq = .int .u64 q ∧ vr = .int .u64 r ∧ Aside0 (Guess v d0 y1 y0 q r) ∧ w = wr) (fun vq _ _ => (intOf vq).toNat)
      case atStart => exact ⟨q0, r0, rfl, rfl, HG2, rfl⟩
      case round =>
        obtain ⟨q, r, rfl, rfl, hG, rfl⟩ := hrel
        have hq := Aside0.mk (And.intro hG.out.q0 hG.out.q1)
        have hr := Aside0.mk (And.intro hG.out.r0 hG.out.r1)
        have DN : Aside0 ((4294967296 ≤ q ∨ 4294967296 * r + d0 < q * y0) → 0 < q ∧ IntKind.u64.wrap (q - 1) = q - 1 ∧ IntKind.u64.wrap (r + y1) = r + y1 ∧ (r + y1 < 4294967296 → Guess v d0 y1 y0 (q - 1) (r + y1)) ∧ (4294967296 ≤ r + y1 → Quo v d0 y1 y0 (q - 1))) :=
          ⟨fun h => by
            obtain ⟨a, b, c⟩ := down HC2.out hG.out h
            have k0 := hq.out
            have k1 := hr.out
            have k2 := HC2.out.a
            have k3 := HC2.out.b
            exact ⟨a, wraps_u64 _ (by omega) (by omega), wraps_u64 _ (by omega) (by omega), b, c⟩⟩
        by_cases c1 : 4294967296 ≤ q
        · have c1b : decide (4294967296 ≤ q) = true := decide_eq_true c1
          obtain ⟨a, e1, e2, b, c⟩ := DN.out (.inl c1)
          have hb := Aside0.mk b
          have hc := Aside0.mk c
          have ha := Aside0.mk a
          clear a b c
          by_cases c3 : 4294967296 ≤ r + y1
          · have c3b : decide (4294967296 ≤ r + y1) = true := decide_eq_true c3
            have hQ := Aside0.mk (hc.out c3)
            clear hb hc DN c1 c3
            go_wp2_with fail
            go_meet
            case rel => exact ⟨q - 1, rfl, hQ, by trivial⟩
          · have c3b : decide (4294967296 ≤ r + y1) = false := decide_eq_false c3
            have hQ := Aside0.mk (hb.out (by omega))
            clear hb hc DN c1 c3
            go_wp2_with fail
            go_roundw
            case rel => exact ⟨q - 1, r + y1, rfl, rfl, hQ, by trivial⟩
            case measure => simp [intOf]; have := ha.out; omega
        · have c1b : decide (4294967296 ≤ q) = false := decide_eq_false c1
          have hP : IntKind.u64.wrap (q * y0) = q * y0 := by
            have k0 := hq.out
            have h1 := Int.mul_le_mul (show q ≤ 4294967295 by omega) (show y0 ≤ 4294967295 by have := HC2.out.e; omega) HC2.out.c (by omega)
            exact wraps_u64 _ (Int.mul_nonneg k0.1 HC2.out.c) (by omega)
          have hT : IntKind.u64.wrap (IntKind.u64.wrap (4294967296 * r) + d0) = 4294967296 * r + d0 := by
            have k1 := hr.out
            have k2 := HC2.out.f
            have k3 := HC2.out.g
            rw [wraps_u64 (4294967296 * r) (by omega) (by omega)]
            exact wraps_u64 _ (by omega) (by omega)
          have ST : Aside0 (¬ 4294967296 * r + d0 < q * y0 → Quo v d0 y1 y0 q) := ⟨fun h => stop HC2.out hG.out (by omega) (by omega)⟩
          by_cases c2 : 4294967296 * r + d0 < q * y0
          · have c2b : decide (4294967296 * r + d0 < q * y0) = true := decide_eq_true c2
            obtain ⟨a, e1, e2, b, c⟩ := DN.out (.inr c2)
            have hb := Aside0.mk b
            have hc := Aside0.mk c
            have ha := Aside0.mk a
            clear a b c
            by_cases c3 : 4294967296 ≤ r + y1
            · have c3b : decide (4294967296 ≤ r + y1) = true := decide_eq_true c3
              have hQ := Aside0.mk (hc.out c3)
              clear hb hc DN c1 c3
              go_wp2_with fail
              go_meet
              case rel => exact ⟨q - 1, rfl, hQ, by trivial⟩
            · have c3b : decide (4294967296 ≤ r + y1) = false := decide_eq_false c3
              have hQ := Aside0.mk (hb.out (by omega))
              clear hb hc DN c1 c3
              go_wp2_with fail
              go_roundw
              case rel => exact ⟨q - 1, r + y1, rfl, rfl, hQ, by trivial⟩
              case measure => simp [intOf]; have := ha.out; omega
          · have c2b : decide (4294967296 * r + d0 < q * y0) = false := decide_eq_false c2
            have hQ := Aside0.mk (ST.out c2)
            clear DN ST c1 c2
            go_wp2_with fail
            go_meet
            case rel => exact ⟨q, rfl, hQ, by trivial⟩
    case rest =>
      obtain ⟨q2, rfl, hQ2, rfl⟩ := hcut
      have FIN := Aside0.mk (final HC.out hQ1.out HV.out hQ2.out HN.out HH.out.1 HH.out.2)
      go_wp2
      go_ret2
      refine ⟨ret2 ?_ ?_, 0, rfl⟩
      · exact FIN.out.1
      · exact FIN.out.2
theorem div64_calls (hi lo y : Int) (w : World) (h0 : 0 ≤ hi) (h1 : hi < y) (h2 : 0 ≤ lo) (h3 : lo < 18446744073709551616) (h5 : y < 18446744073709551616) :
    Calls Try.prog 129 #[.int .u64 hi, .int .u64 lo, .int .u64 y] w fun e w' => e = .returned (.tuple #[.int .u64 ((hi * 18446744073709551616 + lo) / y), .int .u64 ((hi * 18446744073709551616 + lo) % y)]) ∧ ∃ n, w' = w.drewN n := by
  by_cases h : hi = 0
  · subst h
    have := div64_zero lo y w h2 h3 h1 h5
    rwa [show (0 : Int) * 18446744073709551616 + lo = lo by omega]
  · exact div64_pos hi lo y w (by omega) h1 h2 h3 h5
end
end Go.Proofs.Ythokdnheijnmmaa.Long
