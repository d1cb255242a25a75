/- HShift: HShift, HRight, HDivW in one text. -/
import Derived.Test.YthokdnheijnmmaaHSub
import Derived.Test.YthokdnheijnmmaaHDiv64
import Derived.BigRegion
/- HShift. -/
set_option linter.unusedVariables false
namespace Go.Proofs.Ythokdnheijnmmaa.Limbs
open Go.RowKit Go.Proofs.YthokdnheijnmmaaW.PrintWords Go.Proofs.YthokdnheijnmmaaW.PrintLast Go.Proofs.YthokdnheijnmmaaW.PrintMore Go.Proofs.YthokdnheijnmmaaW.Aid Go.Proofs.YthokdnheijnmmaaW.Big Go.Proofs.Ythokdnheijnmmaa.BitsWalk
/-- What holds behind so many limbs, shifted. -/
def LeftInv (a : List Int) (k s i : Nat) (cs : List Int) : Prop :=
  cs.length = a.length + k + 1 ∧ Dig cs ∧ (∀ j : Nat, j < k → rd cs j = 0) ∧ rd cs ((i + k : Nat) : Int) < 2 ^ s ∧ (∀ j : Nat, i + k < j → rd cs j = 0) ∧ val (cs.take (k + i + 1)) = 18446744073709551616 ^ k * (val (a.take i) * 2 ^ s)
theorem LeftInv.start (a : List Int) (k s : Nat) : LeftInv a k s 0 (List.replicate (a.length + k + 1) 0) := by
  refine ⟨by simp, Dig.zeros _, fun j _ => rd_zeros, by rw [rd_zeros]; exact Int.pow_pos (by omega), fun j _ => rd_zeros, ?_⟩
  rw [List.take_replicate, val_zeros]
  simp [val]
theorem bits_comm_or (a b : Int) : Go.bits .or .u64 a b = Go.bits .or .u64 b a := by
  simp [Go.bits, Nat.or_comm]
theorem below_drew1 {B : Nat} {w w1 : World} (h : Below B w w1) : Below B w w1.drew := ⟨h.os, h.tape, h.output, h.size, h.block⟩
theorem Blk.drew {w : World} {g : Nat} {l : List Int} (h : Blk w g l) : Blk w.drew g l := h
theorem left_parts {s : Nat} {x y : Int} (hs : s < 64) (hx0 : 0 ≤ x) (hx1 : x < 18446744073709551616) (hy0 : 0 ≤ y) (hy1 : y < 2 ^ s) :
    0 ≤ Go.bits .or .u64 y (IntKind.u64.wrap (x * 2 ^ s)) ∧ Go.bits .or .u64 y (IntKind.u64.wrap (x * 2 ^ s)) < 18446744073709551616 ∧ 0 ≤ x / 2 ^ (64 - s) ∧ x / 2 ^ (64 - s) < 2 ^ s ∧ x / 2 ^ (64 - s) < 18446744073709551616 ∧
      Go.bits .or .u64 y (IntKind.u64.wrap (x * 2 ^ s)) + 18446744073709551616 * (x / 2 ^ (64 - s)) = y + x * 2 ^ s := by
  have hS : (0 : Int) < 2 ^ s := Int.pow_pos (by omega)
  have hT : (0 : Int) < 2 ^ (64 - s) := Int.pow_pos (by omega)
  have hST : (2 : Int) ^ s * 2 ^ (64 - s) = 18446744073709551616 := by rw [← Int.pow_add, show s + (64 - s) = 64 by omega]; rfl
  have e : (2 : Int) ^ s ≤ 2 ^ 63 := by exact_mod_cast Nat.pow_le_pow_right (by omega) (show s ≤ 63 by omega)
  have hdiv : x * 2 ^ s / 18446744073709551616 = x / 2 ^ (64 - s) := by
    rw [← hST, Int.mul_comm x]
    exact Int.mul_ediv_mul_of_pos _ _ hS
  have hmod : x * 2 ^ s % 18446744073709551616 = x % 2 ^ (64 - s) * 2 ^ s := by
    rw [← hST, Int.mul_comm x, Int.mul_emod_mul_of_pos _ _ hS, Int.mul_comm]
  have hm0 := Int.emod_nonneg x (b := 2 ^ (64 - s)) (by omega)
  have hm1 := Int.emod_lt_of_pos x hT
  have hml : x % 2 ^ (64 - s) * 2 ^ s + 2 ^ s ≤ 18446744073709551616 := by
    have := Int.mul_le_mul_of_nonneg_right (show x % 2 ^ (64 - s) + 1 ≤ 2 ^ (64 - s) by omega) (show (0 : Int) ≤ 2 ^ s by omega)
    rw [Int.add_mul, Int.one_mul, Int.mul_comm (2 ^ (64 - s)), hST] at this
    exact this
  have ho : Go.bits .or .u64 y (IntKind.u64.wrap (x * 2 ^ s)) = y + x * 2 ^ s % 18446744073709551616 := by
    rw [u64_wrap, hmod, bits_comm_or, Go.Proofs.Ythokdnheijnmmaa.Long.or_shift s hs hm0 (by omega) hy0 hy1]
    omega
  have hq0 : 0 ≤ x / 2 ^ (64 - s) := Int.ediv_nonneg hx0 (by omega)
  have hq1 : x / 2 ^ (64 - s) < 2 ^ s := Int.ediv_lt_of_lt_mul hT (by rw [hST]; exact hx1)
  have hsum := Int.mul_ediv_add_emod (x * 2 ^ s) 18446744073709551616
  rw [hdiv] at hsum
  rw [ho]
  refine ⟨?_, ?_, hq0, hq1, by omega, by omega⟩
  · have := Int.emod_nonneg (x * 2 ^ s) (b := 18446744073709551616) (by omega)
    omega
  · rw [hmod]; omega
theorem LeftInv.step {a cs : List Int} {k s i : Nat} {x y v1 v2 : Int} (h : LeftInv a k s i cs) (hi : i < a.length) (hx : rd a i = x) (hy : rd cs ((i + k : Nat) : Int) = y) (hx0 : 0 ≤ x)
    (hv : 0 ≤ v1 ∧ v1 < 18446744073709551616 ∧ 0 ≤ v2 ∧ v2 < 2 ^ s ∧ v2 < 18446744073709551616 ∧ v1 + 18446744073709551616 * v2 = y + x * 2 ^ s) : LeftInv a k s (i + 1) ((cs.set (i + k) v1).set (i + k + 1) v2) := by
  obtain ⟨h1, h2, h3, h4, h5, h6⟩ := h
  obtain ⟨b1, b2, b3, b4, b5, b6⟩ := hv
  have hy0 : 0 ≤ y := hy ▸ (h2.rd (i := ((i + k : Nat) : Int)) (by omega) (by omega)).1
  refine ⟨by simpa using h1, (h2.set _ b1 b2).set _ b3 b5, fun j hj => ?_, ?_, fun j hj => ?_, ?_⟩
  · rw [rd_set_ne _ (by omega), rd_set_ne _ (by omega)]; exact h3 j hj
  · rw [show i + 1 + k = i + k + 1 by omega, rd_set_eq _ (by simp; omega)]; exact b4
  · rw [rd_set_ne _ (by omega), rd_set_ne _ (by omega)]; exact h5 j (by omega)
  · rw [show k + (i + 1) + 1 = i + k + 1 + 1 by omega, val_set_take (by simp; omega), val_set_take (by omega), val_take_succ hi, hx]
    rw [show k + i + 1 = i + k + 1 by omega, val_take_succ (by omega), hy] at h6
    have e : v1.toNat + 18446744073709551616 * v2.toNat = y.toNat + x.toNat * 2 ^ s := by
      have p : ((x.toNat * 2 ^ s : Nat) : Int) = x * 2 ^ s := by rw [Int.natCast_mul, Int.toNat_of_nonneg hx0]; norm_cast
      omega
    have t := congrArg (18446744073709551616 ^ (i + k) * ·) e
    simp only [Nat.mul_add] at t
    have q1 : 18446744073709551616 ^ (i + k) * (x.toNat * 2 ^ s) = 18446744073709551616 ^ k * (18446744073709551616 ^ i * x.toNat * 2 ^ s) := by
      rw [Nat.pow_add]; ac_rfl
    have q2 : 18446744073709551616 ^ (i + k + 1) * v2.toNat = 18446744073709551616 ^ (i + k) * (18446744073709551616 * v2.toNat) := by rw [Nat.pow_succ, Nat.mul_assoc]
    rw [Nat.add_mul, Nat.mul_add, ← q1, q2]
    omega
theorem LeftInv.done {a cs : List Int} {k s n : Nat} (h : LeftInv a k s a.length cs) (hn : n = 64 * k + s) : Dig cs ∧ val cs = val a * 2 ^ n := by
  obtain ⟨h1, h2, h3, h4, h5, h6⟩ := h
  rw [List.take_of_length_le (by omega), List.take_length] at h6
  refine ⟨h2, ?_⟩
  rw [h6, hn, Nat.pow_add, Nat.pow_mul]
  show 18446744073709551616 ^ k * (val a * 2 ^ s) = val a * (18446744073709551616 ^ k * 2 ^ s)
  ac_rfl
section
set_option maxRecDepth 10000
set_option maxHeartbeats 1000000
theorem left_calls (a : List Int) (n : Nat) (A : Option Addr) (c : Nat) (w : World) (hda : Dig a) (hr : Rd w a A c) (hla : a.length ≤ 1000) (hn : n ≤ 6400) :
    Calls Try.prog 100 #[.slice A a.length c, .int .i64 n] w (RetRd (limbs (val a * 2 ^ n)) w) := by
  have HR := Aside0.mk hr
  have DA := Aside0.mk hda
  clear hr hda
  obtain ⟨k, hk⟩ : ∃ k, n / 64 = k := ⟨_, rfl⟩
  obtain ⟨s, hs⟩ : ∃ s, n % 64 = s := ⟨_, rfl⟩
  by_cases h0 : a.length = 0
  · have hb : ((a.length : Int) == 0) = true := by simp [h0]
    have e : Aside0 (limbs (val a * 2 ^ n) = []) := ⟨by rw [List.length_eq_zero_iff.1 h0]; simp [val, limbs_zero]⟩
    go_enter Try.func100, Try.ntmps100
    go_wp2
    go_ret
    exact ⟨none, 0, by rw [e.out]; rfl, by rw [e.out]; exact Rd.nil _, Below.refl _ _⟩
  · have hb : ((a.length : Int) == 0) = false := beq_eq_false_iff_ne.2 (by omega)
    have hki : (n : Int) / 64 = (k : Int) := by omega
    have hsi : (n : Int) % 64 = (s : Int) := by omega
    have hk100 : k ≤ 100 := by omega
    have hs64 : s < 64 := by omega
    have HN : Aside0 (n = 64 * k + s) := ⟨by omega⟩
    clear hk hs hn
    have hmk := fun w => mk_run (a.length + k + 1) (by omega) ((a.length : Int) + (k : Int) + 1) (by omega) w
    go_enter Try.func100, Try.ntmps100
    go_wp2_with fail
    go_loopw [20] (fun v20 wr => ∃ (i : Nat) (cs : List Int), i ≤ a.length ∧ v20 = .int .i64 i ∧ Aside0 (LeftInv a k s i cs) ∧ Aside0 (Blk wr w.heap.size cs) ∧ Aside0 (Below w.heap.size w wr)) (fun v20 _ => a.length - (intOf v20).toNat)
    case atStart => exact ⟨0, _, by omega, rfl, ⟨LeftInv.start _ _ _⟩, ⟨Blk.new w _⟩, ⟨below_alloc (Below.refl _ _) _⟩⟩
    case round =>
      obtain ⟨i, cs, hi, rfl, hI, hblk, hB⟩ := hrel
      have hcl := hI.out.1
      clear hmk
      by_cases hil : i < a.length
      · obtain ⟨ad, rfl, hcell⟩ := Kd.at_int (HR.out.below hB.out).2 (i : Int) (by omega) (by omega)
        simp only [Int.toNat_natCast] at hcell
        have hx := Aside0.mk (DA.out.rd (i := (i : Int)) (by omega) (by omega))
        have hfz := hblk.out.frozen (i + k)
        have hcw : wr.cell? ⟨w.heap.size, i + k, none⟩ = some (.int .u64 (rd cs ((i + k : Nat) : Int))) := hblk.out.cell (by omega)
        have hfz' := hblk.out.frozen (i + k + 1)
        have hcw' : wr.cell? ⟨w.heap.size, i + k + 1, none⟩ = some (.int .u64 (rd cs ((i + k + 1 : Nat) : Int))) := hblk.out.cell (by omega)
        generalize hxx : rd a i = x at *
        have hxx := Aside0.mk hxx
        generalize hyy : rd cs ((i + k : Nat) : Int) = y at *
        have hyy := Aside0.mk hyy
        generalize hzz : rd cs ((i + k + 1 : Nat) : Int) = z at *
        have hv := Aside0.mk (left_parts hs64 hx.out.1 hx.out.2 (hyy.out ▸ (hI.out.2.1.rd (i := ((i + k : Nat) : Int)) (by omega) (by omega)).1) (hyy.out ▸ hI.out.2.2.2.1))
        obtain ⟨v1, ev1⟩ : ∃ v1, Go.bits .or .u64 y (IntKind.u64.wrap (x * 2 ^ s)) = v1 := ⟨_, rfl⟩
        obtain ⟨v2, ev2⟩ : ∃ v2, x / 2 ^ (64 - s) = v2 := ⟨_, rfl⟩
        rw [ev1, ev2] at hv
        have fin := Aside0.mk (hI.out.step hil hxx.out hyy.out hx.out.1 hv.out)
        go_wp2_with fail
        go_region
        go_wp2
        go_roundw
        case rel => exact ⟨i + 1, _, by omega, by go_num, fin, ⟨((hblk.out.put (by omega) v1).drew).put (by simp; omega) v2⟩, ⟨below_set (below_drew1 (below_set hB.out (Nat.le_refl _))) (Nat.le_refl _)⟩⟩
        case measure => simp [intOf]; omega
      · obtain rfl : i = a.length := by omega
        have hfin := Aside0.mk (hI.out.done HN.out)
        have hrd := Aside0.mk (hblk.out.all (c := a.length + k + 1) (by omega) (by omega))
        go_wp2_with fail
        have h := trim_calls cs (some ⟨w.heap.size, 0, none⟩) (a.length + k + 1) _ hfin.out.1 hrd.out
        rw [hcl] at h
        refine h.mono ?_
        rintro e w2 ⟨A2, c2, rfl, hr2, hB2⟩
        go_wp2
        go_ret
        exact ⟨A2, c2, by rw [hfin.out.2]; rfl, by rw [← hfin.out.2]; exact hr2, hB.out.trans (hB2.mono hB.out.size)⟩
end
end Go.Proofs.Ythokdnheijnmmaa.Limbs
/- HRight. -/
set_option linter.unusedVariables false
namespace Go.Proofs.Ythokdnheijnmmaa.Limbs
open Go.RowKit Go.Proofs.YthokdnheijnmmaaW.PrintWords Go.Proofs.YthokdnheijnmmaaW.PrintLast Go.Proofs.YthokdnheijnmmaaW.PrintMore Go.Proofs.YthokdnheijnmmaaW.Aid Go.Proofs.YthokdnheijnmmaaW.Big Go.Proofs.Ythokdnheijnmmaa.BitsWalk
theorem Rd.drop {w : World} {l : List Int} {ad : Addr} {c k : Nat} (h : Rd w l (some ad) c) (hk : k ≤ l.length) : Rd w (l.drop k) (some (ad.add k)) (c - k) := by
  have hl : (l.drop k).length = l.length - k := by simp
  refine ⟨by have := h.1; omega, ?_⟩
  refine ⟨rfl, by have := h.2.2.1; omega, fun hpos => ⟨_, rfl, fun j p hj => ?_⟩⟩
  obtain ⟨ad', hA, hc⟩ := h.2.2.2 (by omega)
  cases hA
  rw [List.getElem?_drop] at hj
  obtain ⟨cs, h1, h2, h3⟩ := hc (k + j) p hj
  refine ⟨cs, h1, h2, fun i u hu => ?_⟩
  rw [← h3 i u hu]
  have e : (ad.add k).add (j * (Kd.int .u64).sz + i) = ad.add ((k + j) * (Kd.int .u64).sz + i) := by
    show (ad.add k).add (j * 1 + i) = ad.add ((k + j) * 1 + i)
    rw [Addr.add_add]
    congr 1
    omega
  rw [e]
theorem drop_val {b : List Int} {i : Nat} (h : i < b.length) : val (b.drop i) = (rd b i).toNat + 18446744073709551616 * val (b.drop (i + 1)) := by
  rw [List.drop_eq_getElem_cons h, ← rd_nat h]
  rfl
/-- A limb of a number shifted down. -/
def rdig (s : Nat) (x R : Nat) : Nat := x / 2 ^ s + 2 ^ (64 - s) * (R % 2 ^ s)
theorem down_val {s x R : Nat} (hs : s < 64) (hx : x < 18446744073709551616) : (x + 18446744073709551616 * R) / 2 ^ s = rdig s x R + 18446744073709551616 * (R / 2 ^ s) ∧ rdig s x R < 18446744073709551616 := by
  have hS : 0 < 2 ^ s := Nat.pow_pos (by omega)
  have hST : 2 ^ s * 2 ^ (64 - s) = 18446744073709551616 := by rw [← Nat.pow_add, show s + (64 - s) = 64 by omega]
  have e1 : (x + 18446744073709551616 * R) / 2 ^ s = x / 2 ^ s + 2 ^ (64 - s) * R := by
    rw [← hST, Nat.mul_assoc, Nat.add_mul_div_left _ _ hS]
  have e2 : 2 ^ (64 - s) * R = 18446744073709551616 * (R / 2 ^ s) + 2 ^ (64 - s) * (R % 2 ^ s) := by
    have h := Nat.div_add_mod R (2 ^ s)
    have h' := congrArg (2 ^ (64 - s) * ·) h
    simp only [Nat.mul_add] at h'
    rw [← h', ← Nat.mul_assoc, Nat.mul_comm (2 ^ (64 - s)) (2 ^ s), hST]
  have e3 : x / 2 ^ s < 2 ^ (64 - s) := by
    rw [Nat.div_lt_iff_lt_mul hS, Nat.mul_comm, hST]; exact hx
  have e4 : 2 ^ (64 - s) * (R % 2 ^ s) + 2 ^ (64 - s) ≤ 18446744073709551616 := by
    have := Nat.mul_le_mul_left (2 ^ (64 - s)) (show R % 2 ^ s + 1 ≤ 2 ^ s from Nat.mod_lt _ hS)
    rw [Nat.mul_add, Nat.mul_one, Nat.mul_comm (2 ^ (64 - s)) (2 ^ s), hST] at this
    exact this
  unfold rdig
  generalize 2 ^ (64 - s) * (R % 2 ^ s) = t at *
  exact ⟨by omega, by omega⟩
/-- What holds behind so many limbs. -/
def RightInv (b : List Int) (s i : Nat) (cs : List Int) : Prop :=
  cs.length = b.length ∧ Dig cs ∧ (∀ j : Nat, i ≤ j → rd cs j = rd b j) ∧ val (cs.take i) + 18446744073709551616 ^ i * (val (b.drop i) / 2 ^ s) = val b / 2 ^ s
theorem RightInv.start {b : List Int} {s : Nat} (h : Dig b) : RightInv b s 0 b := ⟨rfl, h, fun _ _ => rfl, by simp [val]⟩
theorem RightInv.step {b cs : List Int} {s i : Nat} {v : Int} (h : RightInv b s i cs) (hi : i < b.length) (hs : s < 64) (hx0 : 0 ≤ rd b i) (hx1 : rd b i < 18446744073709551616) (hv : v = (rdig s (rd b i).toNat (val (b.drop (i + 1))) : Nat)) : RightInv b s (i + 1) (cs.set i v) := by
  obtain ⟨h1, h2, h3, h4⟩ := h
  obtain ⟨e1, e2⟩ := down_val (s := s) (x := (rd b i).toNat) (R := val (b.drop (i + 1))) hs (by omega)
  refine ⟨by simpa using h1, h2.set _ (by omega) (by omega), fun j hj => ?_, ?_⟩
  · rw [rd_set_ne _ (by omega)]; exact h3 j (by omega)
  · rw [drop_val hi, e1, Nat.mul_add] at h4
    rw [val_set_take (by omega), Nat.pow_succ, Nat.mul_assoc, hv, Int.toNat_natCast]
    omega
theorem RightInv.done {b cs : List Int} {s : Nat} (h : RightInv b s b.length cs) : Dig cs ∧ val cs = val b / 2 ^ s := by
  obtain ⟨h1, h2, h3, h4⟩ := h
  rw [List.take_of_length_le (by omega), List.drop_length] at h4
  exact ⟨h2, by rw [← h4]; simp [val]⟩
theorem digit_of {s : Nat} (hs : s < 64) {x y : Int} {R : Nat} (hx0 : 0 ≤ x) (hx1 : x < 18446744073709551616) (hy0 : 0 ≤ y) : Go.bits .or .u64 (x / 2 ^ s) (IntKind.u64.wrap (y * 2 ^ (64 - s))) = (rdig s x.toNat (y.toNat + 18446744073709551616 * R) : Nat) := by
  have hS : (0 : Int) < 2 ^ s := Int.pow_pos (by omega)
  have hT : (0 : Int) < 2 ^ (64 - s) := Int.pow_pos (by omega)
  have hST : (2 : Int) ^ s * 2 ^ (64 - s) = 18446744073709551616 := by rw [← Int.pow_add, show s + (64 - s) = 64 by omega]; rfl
  have hSN : 2 ^ s * 2 ^ (64 - s) = 18446744073709551616 := by rw [← Nat.pow_add, show s + (64 - s) = 64 by omega]
  have hmod : y * 2 ^ (64 - s) % 18446744073709551616 = y % 2 ^ s * 2 ^ (64 - s) := by
    rw [← hST, Int.mul_comm y, Int.mul_comm (2 ^ s), Int.mul_emod_mul_of_pos _ _ hT, Int.mul_comm]
  have e1 : (y.toNat + 18446744073709551616 * R) % 2 ^ s = y.toNat % 2 ^ s := by
    rw [← hSN, Nat.mul_assoc, Nat.add_mul_mod_self_left]
  have hm0 := Int.emod_nonneg y (b := 2 ^ s) (by omega)
  have hm1 := Int.emod_lt_of_pos y hS
  have hq0 : 0 ≤ x / 2 ^ s := Int.ediv_nonneg hx0 (by omega)
  have hq1 : x / 2 ^ s < 2 ^ (64 - s) := Int.ediv_lt_of_lt_mul hS (by rw [Int.mul_comm, hST]; exact hx1)
  have ecast : ((rdig s x.toNat (y.toNat + 18446744073709551616 * R) : Nat) : Int) = x / 2 ^ s + 2 ^ (64 - s) * (y % 2 ^ s) := by
    unfold rdig
    rw [e1, Int.natCast_add, Int.natCast_mul, Int.natCast_ediv, Int.natCast_emod, Int.toNat_of_nonneg hx0, Int.toNat_of_nonneg hy0]
    norm_cast
  rw [ecast, u64_wrap, hmod]
  by_cases h0 : s = 0
  · subst h0
    have : y % 2 ^ 0 = 0 := by rw [Int.pow_zero]; omega
    rw [this]
    simp only [Int.zero_mul, Int.mul_zero, Int.add_zero]
    rw [Int.pow_zero, Int.ediv_one]
    have := Go.Proofs.Ythokdnheijnmmaa.Long.or_shift 0 (by omega) (a := x) (b := 0) hx0 (by rw [Int.pow_zero, Int.mul_one]; exact hx1) (by omega) (by decide)
    rw [Int.pow_zero, Int.mul_one] at this
    rw [this]; omega
  · have hml : y % 2 ^ s * 2 ^ (64 - s) < 18446744073709551616 := by
      have := Int.mul_lt_mul_of_pos_right hm1 hT
      rw [hST] at this
      exact this
    rw [bits_comm_or, Go.Proofs.Ythokdnheijnmmaa.Long.or_shift (64 - s) (by omega) hm0 hml hq0 hq1, Int.mul_comm (2 ^ (64 - s))]
    omega
theorem digit_last {s x : Nat} : ((rdig s x 0 : Nat) : Int) = (x : Int) / 2 ^ s := by
  unfold rdig
  simp
section
set_option maxRecDepth 100000
set_option maxHeartbeats 1000000
theorem right_calls (a : List Int) (n : Nat) (A : Option Addr) (c : Nat) (w : World) (hda : Dig a) (hr : Rd w a A c) (hla : a.length ≤ 1000) (hn : n ≤ 6400) :
    Calls Try.prog 116 #[.slice A a.length c, .int .i64 n] w (RetRd (limbs (val a / 2 ^ n)) w) := by
  have HR := Aside0.mk hr
  have DA := Aside0.mk hda
  obtain ⟨k, hk⟩ : ∃ k, n / 64 = k := ⟨_, rfl⟩
  obtain ⟨s, hs⟩ : ∃ s, n % 64 = s := ⟨_, rfl⟩
  have hki : (n : Int) / 64 = (k : Int) := by omega
  have hsi : (n : Int) % 64 = (s : Int) := by omega
  have hs64 : s < 64 := by omega
  have HN : Aside0 (n = 64 * k + s) := ⟨by omega⟩
  have hv := val_lt hda
  clear hr hda hk hs
  by_cases h0 : a.length ≤ k
  · have hb : decide (a.length ≤ k) = true := decide_eq_true h0
    have hb2 : decide ((a.length : Int) ≤ (k : Int)) = true := decide_eq_true (by omega)
    have e : Aside0 (limbs (val a / 2 ^ n) = []) := ⟨by
      rw [Nat.div_eq_of_lt, limbs_zero]
      refine Nat.lt_of_lt_of_le hv ?_
      have h1 : 18446744073709551616 ^ a.length ≤ 18446744073709551616 ^ k := Nat.pow_le_pow_right (by omega) h0
      have h2 : 18446744073709551616 ^ k ≤ 2 ^ n := by
        show (2 ^ 64) ^ k ≤ 2 ^ n
        rw [← Nat.pow_mul]
        exact Nat.pow_le_pow_right (by omega) (by have := HN.out; omega)
      omega⟩
    clear hv
    go_enter Try.func116, Try.ntmps116
    go_wp2
    go_ret
    exact ⟨none, 0, by rw [e.out]; rfl, by rw [e.out]; exact Rd.nil _, Below.refl _ _⟩
  · have hb : decide (a.length ≤ k) = false := decide_eq_false h0
    have hb2 : decide ((a.length : Int) ≤ (k : Int)) = false := decide_eq_false (by omega)
    have e : Aside0 (val a / 2 ^ n = val (a.drop k) / 2 ^ s) := ⟨by
      have h1 := val_append (a.take k) (a.drop k)
      rw [List.take_append_drop, List.length_take, Nat.min_eq_left (by omega)] at h1
      have h2 := val_lt (DA.out.take k)
      rw [List.length_take, Nat.min_eq_left (by omega)] at h2
      rw [HN.out, Nat.pow_add, ← Nat.div_div_eq_div_mul, Nat.pow_mul]
      show val a / 18446744073709551616 ^ k / 2 ^ s = _
      rw [h1, Nat.add_mul_div_left _ _ (Nat.pow_pos (by omega)), Nat.div_eq_of_lt h2, Nat.zero_add]⟩
    rw [e.out]
    obtain ⟨ad, rfl⟩ : ∃ ad, A = some ad := by
      obtain ⟨ad, h, _⟩ := HR.out.2.2.2 (by omega)
      exact ⟨ad, h⟩
    have HD := Aside0.mk (Rd.drop HR.out (k := k) (by omega))
    have hlen : (a.drop k).length = a.length - k := by simp
    have HC := Aside0.mk (clone_calls (a.drop k) (some (ad.add k)) (c - k) w HD.out (by omega))
    rw [hlen] at HC
    have hac : a.length ≤ c := HR.out.1
    have Db := Aside0.mk (DA.out.drop k)
    clear hv e
    generalize a.drop k = b at *
    have hkl : k ≤ a.length := by omega
    have hkl' : (k : Int) ≤ (a.length : Int) := by omega
    have HL := Aside0.mk hlen
    clear hlen
    go_enter Try.func116, Try.ntmps116
    go_wp2_with fail
    refine HC.out.mono ?_
    rintro e w1 ⟨hB1, ⟨hnil, rfl⟩ | ⟨g, cp, rfl, hg, hcp, hm, hblk1⟩⟩
    · exact absurd (show b.length = 0 by rw [hnil]; rfl) (by have := HL.out; omega)
    have HB1 := Aside0.mk hB1
    have hg := Aside0.mk hg
    have hcp := Aside0.mk hcp
    have hblk1 := Aside0.mk hblk1
    have hm := Aside0.mk hm
    have hbl : b.length ≤ 1000 := by have := HL.out; omega
    clear hB1 HC h0 hb hb2 hkl hkl'
    go_wp2_with fail
    go_loopw [19] (fun v19 wr => ∃ (i : Nat) (cs : List Int), i ≤ b.length ∧ v19 = .int .i64 i ∧ Aside0 (RightInv b s i cs) ∧ Aside0 (Blk wr g cs) ∧ Aside0 (Below w.heap.size w wr)) (fun v19 _ => b.length - (intOf v19).toNat)
    case atStart => exact ⟨0, _, by omega, rfl, ⟨RightInv.start Db.out⟩, hblk1, HB1⟩
    case round =>
      obtain ⟨i, cs, hi, rfl, hI, hblk, hB⟩ := hrel
      have hcl := hI.out.1
      by_cases hil : i < b.length
      · have hx := Aside0.mk (Db.out.rd (i := (i : Int)) (by omega) (by omega))
        have hfz := hblk.out.frozen i
        have hcw : wr.cell? ⟨g, i, none⟩ = some (.int .u64 (rd b i)) := by rw [← hI.out.2.2.1 i (Nat.le_refl _)]; exact hblk.out.cell (by omega)
        by_cases hin : i + 1 < b.length
        · have hin1 : decide (i + 1 < b.length) = true := decide_eq_true hin
          have hin2 : decide ((i : Int) + 1 < (b.length : Int)) = true := decide_eq_true (by omega)
          have hcw' : wr.cell? ⟨g, i + 1, none⟩ = some (.int .u64 (rd b ((i + 1 : Nat) : Int))) := by rw [← hI.out.2.2.1 (i + 1) (by omega)]; exact hblk.out.cell (by omega)
          have hy := Aside0.mk (Db.out.rd (i := ((i + 1 : Nat) : Int)) (by omega) (by omega))
          have hci : Aside0 (rd cs ((i + 1 : Nat) : Int) = rd b ((i + 1 : Nat) : Int)) := ⟨hI.out.2.2.1 (i + 1) (by omega)⟩
          have hdv := Aside0.mk (digit_of (s := s) hs64 (x := rd b i) (y := rd b ((i + 1 : Nat) : Int)) (R := val (b.drop (i + 1 + 1))) hx.out.1 hx.out.2 hy.out.1)
          have st := Aside0.mk (fun v => hI.out.step (v := v) hil hs64 hx.out.1 hx.out.2)
          rw [← drop_val hin] at hdv
          generalize rd b i = x at *
          generalize rd b ((i + 1 : Nat) : Int) = y at *
          obtain ⟨v, ev⟩ : ∃ v, Go.bits .or .u64 (x / 2 ^ s) (IntKind.u64.wrap (y * 2 ^ (64 - s))) = v := ⟨_, rfl⟩
          rw [ev] at hdv
          have fin := Aside0.mk (st.out v hdv.out)
          clear hdv st
          go_wp2_with fail
          have hblk2 := Aside0.mk (hblk.out.put (i := i) (by omega) (x / 2 ^ s))
          have hB2 := Aside0.mk (below_set hB.out hg.out : Below w.heap.size w (wr.setCell ⟨g, i, none⟩ (.int .u64 (x / 2 ^ s))))
          generalize wr.setCell ⟨g, i, none⟩ (.int .u64 (x / 2 ^ s)) = wq at *
          have hfz2 := hblk2.out.frozen i
          have hcw2 : wq.cell? ⟨g, i, none⟩ = some (.int .u64 (x / 2 ^ s)) := (hblk2.out.cell (i := i) (by simp; omega)).trans (by rw [rd_set_eq _ (by omega)])
          have hcw2' : wq.cell? ⟨g, i + 1, none⟩ = some (.int .u64 y) := (hblk2.out.cell (i := i + 1) (by simp; omega)).trans (by rw [rd_set_ne _ (by omega), hci.out])
          clear hcw hcw' hfz
          go_region
          go_wp2
          go_roundw
          case rel => exact ⟨i + 1, _, by omega, by go_num, fin, ⟨by have h := (hblk2.out.put (i := i) (by simp; omega) v).drew; rw [List.set_set] at h; exact h⟩, ⟨below_drew1 (below_set hB2.out hg.out)⟩⟩
          case measure => simp [intOf]; omega
        · have hin1 : decide (i + 1 < b.length) = false := decide_eq_false hin
          have hin2 : decide ((i : Int) + 1 < (b.length : Int)) = false := decide_eq_false (by omega)
          have hdv : Aside0 (rd b i / 2 ^ s = (rdig s (rd b i).toNat (val (b.drop (i + 1))) : Nat)) := ⟨by rw [List.drop_of_length_le (by omega), show val [] = 0 from rfl, digit_last, Int.toNat_of_nonneg hx.out.1]⟩
          have fin := Aside0.mk (hI.out.step hil hs64 hx.out.1 hx.out.2 hdv.out)
          generalize rd b i = x at *
          clear hdv
          go_wp2
          go_roundw
          case rel => exact ⟨i + 1, _, by omega, by go_num, fin, ⟨hblk.out.put (i := i) (by omega) _⟩, ⟨below_set hB.out hg.out⟩⟩
          case measure => simp [intOf]; omega
      · obtain rfl : i = b.length := by omega
        have hfin := Aside0.mk (hI.out.done)
        have hrd := Aside0.mk (hblk.out.all (c := cp) (by have := hcp.out; omega) (by have := hm.out; omega))
        go_wp2_with fail
        have h := trim_calls cs (some ⟨g, 0, none⟩) cp _ hfin.out.1 hrd.out
        rw [hcl] at h
        refine h.mono ?_
        rintro e w2 ⟨A2, c2, rfl, hr2, hB2⟩
        go_wp2
        go_ret
        exact ⟨A2, c2, by rw [hfin.out.2]; rfl, by rw [← hfin.out.2]; exact hr2, hB.out.trans (hB2.mono hB.out.size)⟩
end
end Go.Proofs.Ythokdnheijnmmaa.Limbs
/- HDivW. -/
set_option linter.unusedVariables false
namespace Go.Proofs.Ythokdnheijnmmaa.Limbs
open Go.RowKit Go.Proofs.YthokdnheijnmmaaW.PrintWords Go.Proofs.YthokdnheijnmmaaW.PrintLast Go.Proofs.YthokdnheijnmmaaW.PrintMore Go.Proofs.YthokdnheijnmmaaW.Aid Go.Proofs.YthokdnheijnmmaaW.Big Go.Proofs.Ythokdnheijnmmaa.BitsWalk
/-- What holds behind so many limbs from the top. -/
def DivInv (a : List Int) (d : Nat) (j : Nat) (r : Int) (cs : List Int) : Prop :=
  cs.length = a.length ∧ Dig cs ∧ 0 ≤ r ∧ r < d ∧ val (a.drop j) = d * val (cs.drop j) + r.toNat
theorem DivInv.start (a : List Int) {d : Nat} (hd : 0 < d) : DivInv a d a.length 0 (List.replicate a.length 0) :=
  ⟨by simp, Dig.zeros _, by omega, by omega, by simp [val]⟩
theorem set_drop_self {l : List Int} {i : Nat} {v : Int} (h : i < l.length) : (l.set i v).drop i = v :: l.drop (i + 1) := by
  rw [List.drop_eq_getElem_cons (by simpa using h)]
  congr 1
  · simp
  · rw [List.drop_set_of_lt (by omega)]
theorem DivInv.step {a cs : List Int} {d i : Nat} {r : Int} (h : DivInv a d (i + 1) r cs) (hi : i < a.length) (hda : Dig a) : 
    0 ≤ (r * 18446744073709551616 + rd a i) / (d : Int) ∧ (r * 18446744073709551616 + rd a i) / (d : Int) < 18446744073709551616 ∧ 0 ≤ (r * 18446744073709551616 + rd a i) % (d : Int) ∧ (r * 18446744073709551616 + rd a i) % (d : Int) < d ∧
    DivInv a d i ((r * 18446744073709551616 + rd a i) % (d : Int)) (cs.set i ((r * 18446744073709551616 + rd a i) / (d : Int))) := by
  obtain ⟨h1, h2, h3, h4, h5⟩ := h
  obtain ⟨x0, x1⟩ := hda.rd (i := (i : Int)) (by omega) (by omega)
  have hd : (0 : Int) < d := by omega
  have e := Int.mul_ediv_add_emod (r * 18446744073709551616 + rd a i) (d : Int)
  have e0 : 0 ≤ (r * 18446744073709551616 + rd a i) / (d : Int) := Int.ediv_nonneg (by omega) (by omega)
  have e1 : (r * 18446744073709551616 + rd a i) / (d : Int) < 18446744073709551616 := by
    refine Int.ediv_lt_of_lt_mul hd ?_
    have := Int.mul_le_mul_of_nonneg_right (show r + 1 ≤ (d : Int) by omega) (show (0 : Int) ≤ 18446744073709551616 by omega)
    rw [Int.mul_comm 18446744073709551616]
    omega
  have e2 := Int.emod_nonneg (r * 18446744073709551616 + rd a i) (b := (d : Int)) (by omega)
  have e3 := Int.emod_lt_of_pos (r * 18446744073709551616 + rd a i) hd
  refine ⟨e0, e1, e2, e3, by simpa using h1, h2.set _ e0 e1, e2, e3, ?_⟩
  rw [drop_val hi, set_drop_self (by omega), h5]
  simp only [val]
  generalize (r * 18446744073709551616 + rd a i) / (d : Int) = q at *
  generalize (r * 18446744073709551616 + rd a i) % (d : Int) = m at *
  have hq : ((d * q.toNat : Nat) : Int) = (d : Int) * q := by rw [Int.natCast_mul, Int.toNat_of_nonneg e0]
  rw [Nat.mul_add, Nat.mul_add, Nat.mul_left_comm d]
  generalize val (cs.drop (i + 1)) = V at *
  generalize d * V = p at *
  generalize d * q.toNat = p' at *
  generalize (d : Int) * q = p'' at *
  omega
theorem DivInv.done {a cs : List Int} {d : Nat} {r : Int} (h : DivInv a d 0 r cs) : Dig cs ∧ val cs = val a / d ∧ r = ((val a % d : Nat) : Int) := by
  obtain ⟨h1, h2, h3, h4, h5⟩ := h
  simp only [List.drop_zero] at h5
  refine ⟨h2, ?_, ?_⟩
  · rw [h5, Nat.mul_add_div (by omega), Nat.div_eq_of_lt (by omega)]; omega
  · rw [h5, Nat.mul_add_mod, Nat.mod_eq_of_lt (by omega)]; omega
/-- What divWord answers. -/
def DivWRet (q r : Nat) (w : World) (e : Ending) (w' : World) : Prop := ∃ A c, e = .returned (.tuple #[.slice A (limbs q).length c, .int .u64 r]) ∧ Rd w' (limbs q) A c ∧ Below w.heap.size w w'
section
set_option maxRecDepth 100000
set_option maxHeartbeats 1000000
theorem below_drewN1 {B n : Nat} {w w1 : World} (h : Below B w w1) : Below B w (w1.drewN n) := ⟨h.os, h.tape, h.output, h.size, h.block⟩
theorem Blk.drewN {w : World} {g n : Nat} {l : List Int} (h : Blk w g l) : Blk (w.drewN n) g l := h
theorem divWord_calls (a : List Int) (d : Nat) (A : Option Addr) (c : Nat) (w : World) (hda : Dig a) (hr : Rd w a A c) (hla : a.length ≤ 1000) (hd0 : 0 < d) (hd1 : d < 18446744073709551616) :
    Calls Try.prog 123 #[.slice A a.length c, .int .u64 d] w (DivWRet (val a / d) (val a % d) w) := by
  have HR := Aside0.mk hr
  have DA := Aside0.mk hda
  have HD := Aside0.mk hd0
  have HD1 := Aside0.mk hd1
  have hmk := fun w => mk_run a.length (by omega) (a.length : Int) rfl w
  clear hr hda hd1 hd0
  go_enter Try.func123, Try.ntmps123
  go_wp2_with fail
  go_loopw [7, 8] (fun v7 v8 wr => ∃ (j : Nat) (r : Int) (cs : List Int), j ≤ a.length ∧ v8 = .int .i64 ((j : Int) - 1) ∧ v7 = .int .u64 r ∧ Aside0 (DivInv a d j r cs) ∧ Aside0 (Blk wr w.heap.size cs) ∧ Aside0 (Below w.heap.size w wr)) (fun _ v8 _ => (intOf v8 + 1).toNat)
  case atStart => exact ⟨a.length, 0, _, Nat.le_refl _, by go_num, rfl, ⟨DivInv.start a HD.out⟩, ⟨Blk.new w _⟩, ⟨below_alloc (Below.refl _ _) _⟩⟩
  case round =>
    obtain ⟨j, r, cs, hj, rfl, rfl, hI, hblk, hB⟩ := hrel
    have hcl := hI.out.1
    clear hmk
    cases j with
    | succ i =>
      have hb : decide ((0 : Int) ≤ ((i + 1 : Nat) : Int) - 1) = true := decide_eq_true (by omega)
      have ei : ((i + 1 : Nat) : Int) - 1 = (i : Int) := by omega
      rw [ei]
      have hil : i < a.length := by omega
      obtain ⟨ad, rfl, hcell⟩ := Kd.at_int (HR.out.below hB.out).2 (i : Int) (by omega) (by omega)
      simp only [Int.toNat_natCast] at hcell
      have hx := Aside0.mk (DA.out.rd (i := (i : Int)) (by omega) (by omega))
      have st := Aside0.mk (hI.out.step hil DA.out)
      generalize rd a i = x at *
      have DV := Aside0.mk (Go.Proofs.Ythokdnheijnmmaa.Long.div64_calls r x d wr hI.out.2.2.1 hI.out.2.2.2.1 hx.out.1 hx.out.2 (by have := HD1.out; omega))
      clear hb ei
      go_wp2_with fail
      refine DV.out.mono ?_
      rintro e w1 ⟨rfl, nd, rfl⟩
      have hfz := hblk.out.frozen i
      have hcw : wr.cell? ⟨w.heap.size, i, none⟩ = some (.int .u64 (rd cs i)) := hblk.out.cell (by omega)
      go_wp2
      go_roundw
      case rel => exact ⟨i, _, _, by omega, by go_num, rfl, ⟨st.out.2.2.2.2⟩, ⟨(hblk.out.drewN).put (by omega) _⟩, ⟨below_set (below_drewN1 hB.out) (Nat.le_refl _)⟩⟩
      case measure => simp [intOf] <;> omega
    | zero =>
      have hb : decide ((0 : Int) ≤ ((0 : Nat) : Int) - 1) = false := decide_eq_false (by omega)
      have hfin := Aside0.mk (hI.out.done)
      have hrd := Aside0.mk (hblk.out.all (c := a.length) (by omega) (by omega))
      go_wp2_with fail
      have h := trim_calls cs (some ⟨w.heap.size, 0, none⟩) a.length _ hfin.out.1 hrd.out
      rw [hcl] at h
      refine h.mono ?_
      rintro e w2 ⟨A2, c2, rfl, hr2, hB2⟩
      go_wp2
      go_ret2
      exact ⟨A2, c2, by rw [hfin.out.2.1, hfin.out.2.2]; rfl, by rw [← hfin.out.2.1]; exact hr2, hB.out.trans (hB2.mono hB.out.size)⟩
theorem limbs_word {n : Nat} (h0 : n ≠ 0) (h1 : n < 18446744073709551616) : limbs n = [(n : Int)] := by
  rw [limbs_pos h0, Nat.mod_eq_of_lt h1, Nat.div_eq_of_lt h1, limbs_zero]
theorem word_calls (n : Nat) (w : World) (h : n < 18446744073709551616) : Calls Try.prog 85 #[.int .u64 n] w (RetRd (limbs n) w) := by
  by_cases h0 : n = 0
  · subst h0
    have e : Aside0 (limbs 0 = []) := ⟨limbs_zero⟩
    go_enter Try.func85, Try.ntmps85
    go_wp2
    go_ret
    exact ⟨none, 0, by rw [e.out]; rfl, by rw [e.out]; exact Rd.nil _, Below.refl _ _⟩
  · have hb : ((n : Int) == 0) = false := beq_eq_false_iff_ne.2 (by omega)
    have e : Aside0 (limbs n = [(n : Int)]) := ⟨limbs_word h0 h⟩
    go_enter Try.func85, Try.ntmps85
    go_wp2
    go_ret
    exact ⟨some ⟨w.heap.size, 0, none⟩, 1, by rw [e.out]; rfl, by rw [e.out]; exact (Blk.new w [(n : Int)]).all (by simp) (by simp), below_alloc (Below.refl _ _) _⟩
/-- What div answers. -/
def DivRet (q r : Nat) (w : World) (e : Ending) (w' : World) : Prop := ∃ A c A' c', e = .returned (.tuple #[.slice A (limbs q).length c, .slice A' (limbs r).length c']) ∧ Rd w' (limbs q) A c ∧ Rd w' (limbs r) A' c' ∧ Below w.heap.size w w'
theorem CloneRet.rd {l : List Int} {w : World} {e : Ending} {w' : World} (h : CloneRet l w e w') : RetRd l w e w' := by
  obtain ⟨hB, ⟨hnil, rfl⟩ | ⟨g, cp, rfl, hg, hcp, hm, hblk⟩⟩ := h
  · subst hnil; exact ⟨none, 0, rfl, Rd.nil _, hB⟩
  · exact ⟨_, _, rfl, hblk.all hcp hm, hB⟩
theorem div_calls_word (a b : Nat) (A A' : Option Addr) (c c' : Nat) (w : World) (hr : Rd w (limbs a) A c) (hr' : Rd w (limbs b) A' c') (hla : (limbs a).length ≤ 1000) (hb0 : 0 < b) (hb1 : b < 18446744073709551616) :
    Calls Try.prog 108 #[.slice A (limbs a).length c, .slice A' (limbs b).length c'] w (DivRet (a / b) (a % b) w) := by
  have HR := Aside0.mk hr
  have HR' := Aside0.mk hr'
  have HB := Aside0.mk (And.intro hb0 hb1)
  have CM := Aside0.mk (cmp_calls a b A A' c c' w hr hr')
  clear hr hr' hb0 hb1
  by_cases hlt : a < b
  · have e1 : Aside0 (a / b = 0 ∧ a % b = a) := ⟨Nat.div_eq_of_lt hlt, Nat.mod_eq_of_lt hlt⟩
    have e2 : cmpR a b = -1 := if_pos hlt
    have hl0 : Aside0 (limbs 0 = []) := ⟨limbs_zero⟩
    rw [e2] at CM
    rw [e1.out.1, e1.out.2]
    have CL := Aside0.mk (fun n => clone_calls (limbs a) A c (w.drewN n) (HR.out.below (below_drewN1 (Below.refl _ _))) (by omega))
    clear e2 hlt
    go_enter Try.func108, Try.ntmps108
    go_wp2_with fail
    refine CM.out.mono ?_
    rintro e w1 ⟨rfl, nd, rfl⟩
    go_wp2_with fail
    refine (CL.out nd).mono ?_
    rintro e w1 hcl
    obtain ⟨A2, c2, rfl, hr2, hB2⟩ := hcl.rd
    go_wp2
    go_ret2
    exact ⟨none, 0, A2, c2, by rw [hl0.out]; rfl, by rw [hl0.out]; exact Rd.nil _, hr2, (below_drewN1 (Below.refl w.heap.size w)).trans hB2⟩
  · have e2 : cmpR a b = (if b < a then 1 else 0) := if_neg hlt
    obtain ⟨k, hk, hk0⟩ : ∃ k : Int, cmpR a b = k ∧ 0 ≤ k := ⟨_, rfl, by rw [e2]; split <;> omega⟩
    have hkb : decide (k < 0) = false := decide_eq_false (by omega)
    have hlb := limbs_word (n := b) (by have := HB.out; omega) HB.out.2
    have hl1 : Aside0 ((limbs b).length = 1) := ⟨by rw [hlb]; rfl⟩
    rw [hk] at CM
    rw [hl1.out] at CM
    rw [hl1.out]
    have DW := Aside0.mk (fun n => divWord_calls (limbs a) b A c (w.drewN n) (limbs_dig a) (HR.out.below (below_drewN1 (Below.refl _ _))) hla HB.out.1 HB.out.2)
    rw [val_limbs] at DW
    obtain ⟨ad, rfl, hcell⟩ := Kd.at_int HR'.out.2 (0 : Int) (by omega) (by rw [hl1.out]; omega)
    have hc0 : rd (limbs b) 0 = (b : Int) := by rw [hlb]; rfl
    rw [hc0] at hcell
    have hcell0 : w.cell? ad = some (.int .u64 (b : Int)) := hcell
    clear hcell
    have hone : decide ((1 : Int) = 1) = true := rfl
    have MB := Aside0.mk (Nat.lt_trans (Nat.mod_lt a HB.out.1) HB.out.2)
    clear e2 hlt hk hk0 hc0 hlb
    go_enter Try.func108, Try.ntmps108
    go_wp2_with fail
    refine CM.out.mono ?_
    rintro e w1 ⟨rfl, nd, rfl⟩
    go_wp2_with fail
    refine (DW.out nd).mono ?_
    rintro e w1 ⟨A2, c2, rfl, hr2, hB2⟩
    go_wp2_with fail
    refine (word_calls (a % b) w1 MB.out).mono ?_
    rintro e w2 ⟨A3, c3, rfl, hr3, hB3⟩
    have hB3 := Aside0.mk hB3
    have hB2 := Aside0.mk hB2
    go_wp2
    go_ret2
    exact ⟨A2, c2, A3, c3, rfl, hr2.below hB3.out, hr3, ((below_drewN1 (Below.refl w.heap.size w)).trans hB2.out).trans (hB3.out.mono hB2.out.size)⟩
end
end Go.Proofs.Ythokdnheijnmmaa.Limbs
