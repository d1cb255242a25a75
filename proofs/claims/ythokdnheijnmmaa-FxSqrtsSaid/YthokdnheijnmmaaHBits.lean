/- Walks of math/bits' products, sums with carry. -/
import Derived.Test.YthokdnheijnmmaaHMods
import Derived.Laws.BitsLemmas
import Derived.Laws.Externs
set_option linter.unusedVariables false
namespace Go.Proofs.Ythokdnheijnmmaa.BitsWalk
open Go.RowKit Go.Proofs.YthokdnheijnmmaaW.PrintWords Go.Proofs.YthokdnheijnmmaaW.PrintLast Go.Proofs.YthokdnheijnmmaaW.PrintMore Go.Proofs.YthokdnheijnmmaaW.Aid

theorem wraps_u64 (n : Int) (h₀ : 0 ≤ n) (h₁ : n < 2 ^ 64) : IntKind.u64.wrap n = n := by rw [u64_wrap]; omega
theorem and32 {x : Int} (h0 : 0 ≤ x) (h1 : x < 18446744073709551616) : Go.bits .and .u64 x 4294967295 = x % 4294967296 :=
  bits_mask .u64 64 (by decide) wraps_u64 32 (by decide) x h0 h1
theorem and30 {x : Int} (h0 : 0 ≤ x) (h1 : x < 18446744073709551616) : Go.bits .and .u64 x 1073741823 = x % 1073741824 :=
  bits_mask .u64 64 (by decide) wraps_u64 30 (by decide) x h0 h1
theorem or34 {a b : Int} (ha : 0 ≤ a) (ha1 : a < 1073741824) (hb : 0 ≤ b) (hb1 : b < 17179869184) : Go.bits .or .u64 (a * 17179869184) b = a * 17179869184 + b :=
  bits_join .u64 64 (by decide) wraps_u64 34 (a * 17179869184) b (by omega) (by omega) (by omega) hb (by omega) (by omega)
theorem ret2 {k k' : IntKind} {a b a' b' : Int} (h : a = a') (h' : b = b') : Ending.returned (.tuple #[.int k a, .int k' b]) = .returned (.tuple #[.int k a', .int k' b']) := by rw [h, h']
theorem ret1 {k : IntKind} {a a' : Int} (h : a = a') : Ending.returned (.int k a) = .returned (.int k a') := by rw [h]
theorem prod_bd {a b : Int} (ha : 0 ≤ a) (ha1 : a < 4294967296) (hb : 0 ≤ b) (hb1 : b < 4294967296) : 0 ≤ a * b ∧ a * b ≤ 18446744065119617025 := by
  refine ⟨Int.mul_nonneg ha hb, ?_⟩
  have h : a * b ≤ 4294967295 * 4294967295 := Int.mul_le_mul (by omega) (by omega) hb (by omega)
  omega
theorem mul64_hi {x y : Int} (hx : 0 ≤ x) (hx1 : x < 18446744073709551616) (hy : 0 ≤ y) (hy1 : y < 18446744073709551616) :
    x / 4294967296 * (y / 4294967296) + (x / 4294967296 * (y % 4294967296) + (x % 4294967296) * (y % 4294967296) / 4294967296) / 4294967296 +
      ((x / 4294967296 * (y % 4294967296) + (x % 4294967296) * (y % 4294967296) / 4294967296) % 4294967296 + (x % 4294967296) * (y / 4294967296)) / 4294967296 = x * y / 18446744073709551616 := by
  have e : x * y = (x / 4294967296 * (y / 4294967296)) * 18446744073709551616 + ((x / 4294967296 * (y % 4294967296)) + (x % 4294967296) * (y / 4294967296)) * 4294967296 + (x % 4294967296) * (y % 4294967296) := by
    have hx' : x = x / 4294967296 * 4294967296 + x % 4294967296 := by omega
    have hy' : y = y / 4294967296 * 4294967296 + y % 4294967296 := by omega
    generalize x / 4294967296 = x1 at *
    generalize x % 4294967296 = x0 at *
    generalize y / 4294967296 = y1 at *
    generalize y % 4294967296 = y0 at *
    subst hx' hy'
    simp only [Int.add_mul, Int.mul_add]
    have e1 : x1 * 4294967296 * (y1 * 4294967296) = x1 * y1 * 18446744073709551616 := by
      rw [show x1 * 4294967296 * (y1 * 4294967296) = x1 * y1 * (4294967296 * 4294967296) by simp only [Int.mul_assoc, Int.mul_left_comm, Int.mul_comm]]; rfl
    have e2 : x1 * 4294967296 * y0 = x1 * y0 * 4294967296 := by simp only [Int.mul_assoc, Int.mul_comm, Int.mul_left_comm]
    have e3 : x0 * (y1 * 4294967296) = x0 * y1 * 4294967296 := by simp only [Int.mul_assoc]
    rw [e1, e2, e3]
    omega
  rw [e]
  generalize x / 4294967296 * (y / 4294967296) = p at *
  generalize x / 4294967296 * (y % 4294967296) = q at *
  generalize x % 4294967296 * (y / 4294967296) = r at *
  generalize x % 4294967296 * (y % 4294967296) = s at *
  omega

section
set_option maxRecDepth 100000
set_option maxHeartbeats 1000000
theorem mul64_calls (x y : Int) (w : World) (hx : 0 ≤ x) (hx1 : x < 18446744073709551616) (hy : 0 ≤ y) (hy1 : y < 18446744073709551616) :
    Calls Try.prog 73 #[.int .u64 x, .int .u64 y] w fun e w' => e = .returned (.tuple #[.int .u64 (x * y / 18446744073709551616), .int .u64 (x * y % 18446744073709551616)]) ∧ w = w' := by
  have M := Aside0.mk (mul64_hi hx hx1 hy hy1)
  have P1 := Aside0.mk (prod_bd (a := x / 4294967296) (b := y / 4294967296) (by omega) (by omega) (by omega) (by omega))
  have P2 := Aside0.mk (prod_bd (a := x / 4294967296) (b := y % 4294967296) (by omega) (by omega) (by omega) (by omega))
  have P3 := Aside0.mk (prod_bd (a := x % 4294967296) (b := y / 4294967296) (by omega) (by omega) (by omega) (by omega))
  have P4 := Aside0.mk (prod_bd (a := x % 4294967296) (b := y % 4294967296) (by omega) (by omega) (by omega) (by omega))
  have X := Aside0.mk (and32 hx hx1)
  have Y := Aside0.mk (and32 hy hy1)
  have HX := Aside0.mk (And.intro hx hx1)
  have HY := Aside0.mk (And.intro hy hy1)
  clear hx hx1 hy hy1
  go_enter Try.func73, Try.ntmps73
  go_wp2
  go_ret2
  obtain ⟨p10, p11⟩ := P1.out
  obtain ⟨p20, p21⟩ := P2.out
  obtain ⟨p30, p31⟩ := P3.out
  obtain ⟨p40, p41⟩ := P4.out
  have hm := M.out
  have hX := X.out
  have hY := Y.out
  refine ⟨ret2 ?_ ?_, rfl⟩
  · simp only [hX, hY, u64_wrap]
    generalize x / 4294967296 * (y / 4294967296) = p at *
    generalize x / 4294967296 * (y % 4294967296) = q at *
    generalize x % 4294967296 * (y / 4294967296) = r at *
    generalize x % 4294967296 * (y % 4294967296) = s at *
    have h1 : p % 18446744073709551616 = p := by omega
    have h2 : q % 18446744073709551616 = q := by omega
    have h3 : r % 18446744073709551616 = r := by omega
    have h4 : s % 18446744073709551616 = s := by omega
    have h5 : (q + s / 4294967296) % 18446744073709551616 = q + s / 4294967296 := by omega
    rw [h1, h2, h3, h4, h5, and32 (by omega) (by omega), ← hm]
    omega
  · rw [u64_wrap]
end
theorem add64_run (x y c : Int) (hx : 0 ≤ x) (hy : 0 ≤ y) (hc0 : 0 ≤ c) (hc : c ≤ 1) (w : World) :
    (callFunc 75 #[.int .u64 x, .int .u64 y, .int .u64 c]).run Try.prog w = .ok (.value (.tuple #[.int .u64 ((x + y + c) % 18446744073709551616), .int .u64 ((x + y + c) / 18446744073709551616)])) w := by
  rw [run_callFunc_extern Try.func75 (by kernel_rfl) (by kernel_rfl) (by kernel_rfl) (e := add64Entry) (by kernel_rfl), run_add64 x y c hx hy hc0 hc]
  rfl
end Go.Proofs.Ythokdnheijnmmaa.BitsWalk
