/- Walks of the limbs' functions: left. -/
import Derived.Test.YthokdnheijnmmaaHSub
import Derived.Test.YthokdnheijnmmaaHDiv64
import Derived.BigRegion
set_option linter.unusedVariables false
namespace Go.Proofs.Ythokdnheijnmmaa.Limbs
open Go.RowKit Go.Proofs.YthokdnheijnmmaaW.PrintWords Go.Proofs.YthokdnheijnmmaaW.PrintLast Go.Proofs.YthokdnheijnmmaaW.PrintMore Go.Proofs.YthokdnheijnmmaaW.Aid Go.Proofs.YthokdnheijnmmaaW.Big Go.Proofs.Ythokdnheijnmmaa.BitsWalk
/-- What holds behind so many limbs, shifted. -/
def LeftInv (a : List Int) (k s i : Nat) (cs : List Int) : Prop :=
  cs.length = a.length + k + 1 ∧ Dig cs ∧ (∀ j : Nat, j < k → rd cs j = 0) ∧ rd cs ((i + k : Nat) : Int) < 2 ^ s ∧ (∀ j : Nat, i + k < j → rd cs j = 0) ∧ val (cs.take (k + i + 1)) = 18446744073709551616 ^ k * (val (a.take i) * 2 ^ s)
theorem LeftInv.start (a : List Int) (k s : Nat) : LeftInv a k s 0 (List.replicate (a.length + k + 1) 0) := by
  refine ⟨by simp, Dig.zeros _, fun j _ => rd_zeros, by rw [rd_zeros]; exact Int.pow_pos (by omega), fun j _ => rd_zeros, ?_⟩
  rw [List.take_replicate, val_zeros]
  simp [val]
theorem bits_comm_or (a b : Int) : Go.bits .or .u64 a b = Go.bits .or .u64 b a := by
  simp [Go.bits, Nat.or_comm]
theorem below_drew1 {B : Nat} {w w1 : World} (h : Below B w w1) : Below B w w1.drew := ⟨h.os, h.tape, h.output, h.size, h.block⟩
theorem Blk.drew {w : World} {g : Nat} {l : List Int} (h : Blk w g l) : Blk w.drew g l := h
theorem left_parts {s : Nat} {x y : Int} (hs : s < 64) (hx0 : 0 ≤ x) (hx1 : x < 18446744073709551616) (hy0 : 0 ≤ y) (hy1 : y < 2 ^ s) :
    0 ≤ Go.bits .or .u64 y (IntKind.u64.wrap (x * 2 ^ s)) ∧ Go.bits .or .u64 y (IntKind.u64.wrap (x * 2 ^ s)) < 18446744073709551616 ∧ 0 ≤ x / 2 ^ (64 - s) ∧ x / 2 ^ (64 - s) < 2 ^ s ∧ x / 2 ^ (64 - s) < 18446744073709551616 ∧
      Go.bits .or .u64 y (IntKind.u64.wrap (x * 2 ^ s)) + 18446744073709551616 * (x / 2 ^ (64 - s)) = y + x * 2 ^ s := by
  have hS : (0 : Int) < 2 ^ s := Int.pow_pos (by omega)
  have hT : (0 : Int) < 2 ^ (64 - s) := Int.pow_pos (by omega)
  have hST : (2 : Int) ^ s * 2 ^ (64 - s) = 18446744073709551616 := by rw [← Int.pow_add, show s + (64 - s) = 64 by omega]; rfl
  have e : (2 : Int) ^ s ≤ 2 ^ 63 := by exact_mod_cast Nat.pow_le_pow_right (by omega) (show s ≤ 63 by omega)
  have hdiv : x * 2 ^ s / 18446744073709551616 = x / 2 ^ (64 - s) := by
    rw [← hST, Int.mul_comm x]
    exact Int.mul_ediv_mul_of_pos _ _ hS
  have hmod : x * 2 ^ s % 18446744073709551616 = x % 2 ^ (64 - s) * 2 ^ s := by
    rw [← hST, Int.mul_comm x, Int.mul_emod_mul_of_pos _ _ hS, Int.mul_comm]
  have hm0 := Int.emod_nonneg x (b := 2 ^ (64 - s)) (by omega)
  have hm1 := Int.emod_lt_of_pos x hT
  have hml : x % 2 ^ (64 - s) * 2 ^ s + 2 ^ s ≤ 18446744073709551616 := by
    have := Int.mul_le_mul_of_nonneg_right (show x % 2 ^ (64 - s) + 1 ≤ 2 ^ (64 - s) by omega) (show (0 : Int) ≤ 2 ^ s by omega)
    rw [Int.add_mul, Int.one_mul, Int.mul_comm (2 ^ (64 - s)), hST] at this
    exact this
  have ho : Go.bits .or .u64 y (IntKind.u64.wrap (x * 2 ^ s)) = y + x * 2 ^ s % 18446744073709551616 := by
    rw [u64_wrap, hmod, bits_comm_or, Go.Proofs.Ythokdnheijnmmaa.Long.or_shift s hs hm0 (by omega) hy0 hy1]
    omega
  have hq0 : 0 ≤ x / 2 ^ (64 - s) := Int.ediv_nonneg hx0 (by omega)
  have hq1 : x / 2 ^ (64 - s) < 2 ^ s := Int.ediv_lt_of_lt_mul hT (by rw [hST]; exact hx1)
  have hsum := Int.mul_ediv_add_emod (x * 2 ^ s) 18446744073709551616
  rw [hdiv] at hsum
  rw [ho]
  refine ⟨?_, ?_, hq0, hq1, by omega, by omega⟩
  · have := Int.emod_nonneg (x * 2 ^ s) (b := 18446744073709551616) (by omega)
    omega
  · rw [hmod]; omega
theorem LeftInv.step {a cs : List Int} {k s i : Nat} {x y v1 v2 : Int} (h : LeftInv a k s i cs) (hi : i < a.length) (hx : rd a i = x) (hy : rd cs ((i + k : Nat) : Int) = y) (hx0 : 0 ≤ x)
    (hv : 0 ≤ v1 ∧ v1 < 18446744073709551616 ∧ 0 ≤ v2 ∧ v2 < 2 ^ s ∧ v2 < 18446744073709551616 ∧ v1 + 18446744073709551616 * v2 = y + x * 2 ^ s) : LeftInv a k s (i + 1) ((cs.set (i + k) v1).set (i + k + 1) v2) := by
  obtain ⟨h1, h2, h3, h4, h5, h6⟩ := h
  obtain ⟨b1, b2, b3, b4, b5, b6⟩ := hv
  have hy0 : 0 ≤ y := hy ▸ (h2.rd (i := ((i + k : Nat) : Int)) (by omega) (by omega)).1
  refine ⟨by simpa using h1, (h2.set _ b1 b2).set _ b3 b5, fun j hj => ?_, ?_, fun j hj => ?_, ?_⟩
  · rw [rd_set_ne _ (by omega), rd_set_ne _ (by omega)]; exact h3 j hj
  · rw [show i + 1 + k = i + k + 1 by omega, rd_set_eq _ (by simp; omega)]; exact b4
  · rw [rd_set_ne _ (by omega), rd_set_ne _ (by omega)]; exact h5 j (by omega)
  · rw [show k + (i + 1) + 1 = i + k + 1 + 1 by omega, val_set_take (by simp; omega), val_set_take (by omega), val_take_succ hi, hx]
    rw [show k + i + 1 = i + k + 1 by omega, val_take_succ (by omega), hy] at h6
    have e : v1.toNat + 18446744073709551616 * v2.toNat = y.toNat + x.toNat * 2 ^ s := by
      have p : ((x.toNat * 2 ^ s : Nat) : Int) = x * 2 ^ s := by rw [Int.natCast_mul, Int.toNat_of_nonneg hx0]; norm_cast
      omega
    have t := congrArg (18446744073709551616 ^ (i + k) * ·) e
    simp only [Nat.mul_add] at t
    have q1 : 18446744073709551616 ^ (i + k) * (x.toNat * 2 ^ s) = 18446744073709551616 ^ k * (18446744073709551616 ^ i * x.toNat * 2 ^ s) := by
      rw [Nat.pow_add]; ac_rfl
    have q2 : 18446744073709551616 ^ (i + k + 1) * v2.toNat = 18446744073709551616 ^ (i + k) * (18446744073709551616 * v2.toNat) := by rw [Nat.pow_succ, Nat.mul_assoc]
    rw [Nat.add_mul, Nat.mul_add, ← q1, q2]
    omega
theorem LeftInv.done {a cs : List Int} {k s n : Nat} (h : LeftInv a k s a.length cs) (hn : n = 64 * k + s) : Dig cs ∧ val cs = val a * 2 ^ n := by
  obtain ⟨h1, h2, h3, h4, h5, h6⟩ := h
  rw [List.take_of_length_le (by omega), List.take_length] at h6
  refine ⟨h2, ?_⟩
  rw [h6, hn, Nat.pow_add, Nat.pow_mul]
  show 18446744073709551616 ^ k * (val a * 2 ^ s) = val a * (18446744073709551616 ^ k * 2 ^ s)
  ac_rfl
section
set_option maxRecDepth 10000
set_option maxHeartbeats 1000000
theorem left_calls (a : List Int) (n : Nat) (A : Option Addr) (c : Nat) (w : World) (hda : Dig a) (hr : Rd w a A c) (hla : a.length ≤ 1000) (hn : n ≤ 6400) :
    Calls Try.prog 100 #[.slice A a.length c, .int .i64 n] w (RetRd (limbs (val a * 2 ^ n)) w) := by
  have HR := Aside0.mk hr
  have DA := Aside0.mk hda
  clear hr hda
  obtain ⟨k, hk⟩ : ∃ k, n / 64 = k := ⟨_, rfl⟩
  obtain ⟨s, hs⟩ : ∃ s, n % 64 = s := ⟨_, rfl⟩
  by_cases h0 : a.length = 0
  · have hb : ((a.length : Int) == 0) = true := by simp [h0]
    have e : Aside0 (limbs (val a * 2 ^ n) = []) := ⟨by rw [List.length_eq_zero_iff.1 h0]; simp [val, limbs_zero]⟩
    go_enter Try.func100, Try.ntmps100
    go_wp2
    go_ret
    exact ⟨none, 0, by rw [e.out]; rfl, by rw [e.out]; exact Rd.nil _, Below.refl _ _⟩
  · have hb : ((a.length : Int) == 0) = false := beq_eq_false_iff_ne.2 (by omega)
    have hki : (n : Int) / 64 = (k : Int) := by omega
    have hsi : (n : Int) % 64 = (s : Int) := by omega
    have hk100 : k ≤ 100 := by omega
    have hs64 : s < 64 := by omega
    have HN : Aside0 (n = 64 * k + s) := ⟨by omega⟩
    clear hk hs hn
    have hmk := fun w => mk_run (a.length + k + 1) (by omega) ((a.length : Int) + (k : Int) + 1) (by omega) w
    go_enter Try.func100, Try.ntmps100
    go_wp2_with fail
    go_loopw [20] (fun v20 wr => ∃ (i : Nat) (cs : List Int), i ≤ a.length ∧ v20 = .int .i64 i ∧ Aside0 (LeftInv a k s i cs) ∧ Aside0 (Blk wr w.heap.size cs) ∧ Aside0 (Below w.heap.size w wr)) (fun v20 _ => a.length - (intOf v20).toNat)
    case atStart => exact ⟨0, _, by omega, rfl, ⟨LeftInv.start _ _ _⟩, ⟨Blk.new w _⟩, ⟨below_alloc (Below.refl _ _) _⟩⟩
    case round =>
      obtain ⟨i, cs, hi, rfl, hI, hblk, hB⟩ := hrel
      have hcl := hI.out.1
      clear hmk
      by_cases hil : i < a.length
      · obtain ⟨ad, rfl, hcell⟩ := Kd.at_int (HR.out.below hB.out).2 (i : Int) (by omega) (by omega)
        simp only [Int.toNat_natCast] at hcell
        have hx := Aside0.mk (DA.out.rd (i := (i : Int)) (by omega) (by omega))
        have hfz := hblk.out.frozen (i + k)
        have hcw : wr.cell? ⟨w.heap.size, i + k, none⟩ = some (.int .u64 (rd cs ((i + k : Nat) : Int))) := hblk.out.cell (by omega)
        have hfz' := hblk.out.frozen (i + k + 1)
        have hcw' : wr.cell? ⟨w.heap.size, i + k + 1, none⟩ = some (.int .u64 (rd cs ((i + k + 1 : Nat) : Int))) := hblk.out.cell (by omega)
        generalize hxx : rd a i = x at *
        have hxx := Aside0.mk hxx
        generalize hyy : rd cs ((i + k : Nat) : Int) = y at *
        have hyy := Aside0.mk hyy
        generalize hzz : rd cs ((i + k + 1 : Nat) : Int) = z at *
        have hv := Aside0.mk (left_parts hs64 hx.out.1 hx.out.2 (hyy.out ▸ (hI.out.2.1.rd (i := ((i + k : Nat) : Int)) (by omega) (by omega)).1) (hyy.out ▸ hI.out.2.2.2.1))
        obtain ⟨v1, ev1⟩ : ∃ v1, Go.bits .or .u64 y (IntKind.u64.wrap (x * 2 ^ s)) = v1 := ⟨_, rfl⟩
        obtain ⟨v2, ev2⟩ : ∃ v2, x / 2 ^ (64 - s) = v2 := ⟨_, rfl⟩
        rw [ev1, ev2] at hv
        have fin := Aside0.mk (hI.out.step hil hxx.out hyy.out hx.out.1 hv.out)
        go_wp2_with fail
        go_region
        go_wp2
        go_roundw
        case rel => exact ⟨i + 1, _, by omega, by go_num, fin, ⟨((hblk.out.put (by omega) v1).drew).put (by simp; omega) v2⟩, ⟨below_set (below_drew1 (below_set hB.out (Nat.le_refl _))) (Nat.le_refl _)⟩⟩
        case measure => simp [intOf]; omega
      · obtain rfl : i = a.length := by omega
        have hfin := Aside0.mk (hI.out.done HN.out)
        have hrd := Aside0.mk (hblk.out.all (c := a.length + k + 1) (by omega) (by omega))
        go_wp2_with fail
        have h := trim_calls cs (some ⟨w.heap.size, 0, none⟩) (a.length + k + 1) _ hfin.out.1 hrd.out
        rw [hcl] at h
        refine h.mono ?_
        rintro e w2 ⟨A2, c2, rfl, hr2, hB2⟩
        go_wp2
        go_ret
        exact ⟨A2, c2, by rw [hfin.out.2]; rfl, by rw [← hfin.out.2]; exact hr2, hB.out.trans (hB2.mono hB.out.size)⟩
end
end Go.Proofs.Ythokdnheijnmmaa.Limbs
