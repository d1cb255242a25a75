/- The walk of fx.Mul: R(a b / 2^30), of words. -/
import Derived.Test.YthokdnheijnmmaaHFx
import Derived.Test.YthokdnheijnmmaaHBits
set_option linter.unusedVariables false
namespace Go.Proofs.Ythokdnheijnmmaa.FxWalk
open Go.RowKit Go.Proofs.YthokdnheijnmmaaW.PrintWords Go.Proofs.YthokdnheijnmmaaW.PrintLast Go.Proofs.YthokdnheijnmmaaW.PrintMore Go.Proofs.YthokdnheijnmmaaW.Aid Go.Proofs.Ythokdnheijnmmaa.BitsWalk

theorem quiet {P : Program} {f : FuncId} {args : Array Value} {w : World} {n : Nat} {v : Value} (h : Calls P f args (w.drewN n) fun e w' => e = .returned v ∧ w.drewN n = w') :
    Calls P f args (w.drewN n) fun e w'' => e = .returned v ∧ ∃ m, w'' = w.drewN m := Calls.quiet_of_same (h.mono fun _ _ ⟨a, b⟩ => ⟨a, b.symm⟩)
def ab (a : Int) : Int := (a.natAbs : Int)
theorem ab_bd {a : Int} (h : wd a = true) : 0 ≤ ab a ∧ ab a < 35184372088832 := by
  rw [wd_iff] at h
  unfold ab
  omega
/-- P / 2^30, rounded to the nearest, of two as near to the even one. -/
def rnd30 (P : Int) : Int := P / 1073741824 + (if P % 1073741824 > 536870912 ∨ (P % 1073741824 = 536870912 ∧ P / 1073741824 % 2 = 1) then 1 else 0)
/-- A magnitude with a sign, as a word. -/
def signR (neg : Bool) (q : Int) : Int × Int := if q < 35184372088832 then (if neg = true then -q else q, 0) else (0, 2)
def timesR (a b : Int) : Int × Int := signR (!(decide (a < 0) == decide (b < 0))) (rnd30 (ab a * ab b))
section
set_option maxRecDepth 100000
set_option maxHeartbeats 1000000
theorem abs_calls (a : Int) (w : World) (h : wd a = true) : Calls Try.prog 74 #[.int .i64 a] w fun e w' => e = .returned (.int .u64 (ab a)) ∧ w = w' := by
  rw [wd_iff] at h
  obtain ⟨h1, h2⟩ := h
  by_cases hn : a < 0
  · have e : Aside0 (ab a = -a) := ⟨by unfold ab; omega⟩
    rw [e.out]
    go_enter Try.func74, Try.ntmps74
    go_wp2
    go_ret
    refine ⟨ret1 ?_, rfl⟩
    simp only [u64_wrap]
    omega
  · have e : Aside0 (ab a = a) := ⟨by unfold ab; omega⟩
    rw [e.out]
    go_enter Try.func74, Try.ntmps74
    go_wp2
    go_ret
    refine ⟨ret1 ?_, rfl⟩
    first | rfl | (simp only [u64_wrap]; omega)
theorem signed_calls (neg : Bool) (q : Int) (w : World) (h0 : 0 ≤ q) (h1 : q < 9223372036854775808) : Calls Try.prog 76 #[.bool neg, .int .u64 0, .int .u64 q] w fun e w' => e = .returned (.tuple #[.int .i64 (signR neg q).1, .int .i64 (signR neg q).2]) ∧ w = w' := by
  by_cases hq : q < 35184372088832
  · cases neg with
    | true =>
      have e : Aside0 (signR true q = (-q, 0)) := ⟨by unfold signR; rw [if_pos hq]; rfl⟩
      rw [e.out]
      have hb : decide (35184372088832 ≤ q) = false := decide_eq_false (by omega)
      clear h1
      go_enter Try.func76, Try.ntmps76
      go_wp2
      go_ret2
      exact ⟨rfl, rfl⟩
    | false =>
      have e : Aside0 (signR false q = (q, 0)) := ⟨by unfold signR; rw [if_pos hq]; rfl⟩
      rw [e.out]
      have hb : decide (35184372088832 ≤ q) = false := decide_eq_false (by omega)
      clear h1
      go_enter Try.func76, Try.ntmps76
      go_wp2
      go_ret2
      exact ⟨rfl, rfl⟩
  · have e : Aside0 (signR neg q = (0, 2)) := ⟨by unfold signR; rw [if_neg hq]⟩
    rw [e.out]
    have hb : decide (35184372088832 ≤ q) = true := decide_eq_true (by omega)
    clear h1 hq
    go_enter Try.func76, Try.ntmps76
    go_wp2
    go_ret2
    exact ⟨rfl, rfl⟩
theorem rnd_parts {P hi lo : Int} (h0 : 0 ≤ P) (hh : P / 18446744073709551616 = hi) (hl : P % 18446744073709551616 = lo) : P / 1073741824 = hi * 17179869184 + lo / 1073741824 ∧ P % 1073741824 = lo % 1073741824 := by omega
theorem times_calls (a b : Int) (w : World) (ha : wd a = true) (hb : wd b = true) : Calls Try.prog 41 #[.agg #[.int .i64 a, .int .i64 b]] w (PairPost (timesR a b) w) := by
  have HA := Aside0.mk ha
  have HB := Aside0.mk hb
  obtain ⟨A0, A1⟩ := ab_bd ha
  obtain ⟨B0, B1⟩ := ab_bd hb
  have hP0 : 0 ≤ ab a * ab b := Int.mul_nonneg A0 B0
  have hP1 : ab a * ab b ≤ 35184372088831 * 35184372088831 := Int.mul_le_mul (by omega) (by omega) B0 (by omega)
  have HR : Aside0 (timesR a b = signR (!(decide (a < 0) == decide (b < 0))) (rnd30 (ab a * ab b))) := ⟨rfl⟩
  generalize timesR a b = R at *
  have A1' : ab a < 18446744073709551616 := by omega
  have B1' : ab b < 18446744073709551616 := by omega
  have M := Aside0.mk (fun n => mul64_calls (ab a) (ab b) (World.drewN (w.alloc (.cells #[.int .i64 a, .int .i64 b] 50)) n) A0 A1' B0 B1')
  have Z : Aside0 (∃ hi lo : Int, ab a * ab b / 18446744073709551616 = hi ∧ ab a * ab b % 18446744073709551616 = lo ∧ 0 ≤ hi ∧ hi ≤ 67108864 ∧ 0 ≤ lo ∧ lo < 18446744073709551616 ∧ 0 ≤ ab a * ab b) := ⟨_, _, rfl, rfl, by omega, by omega, by omega, by omega, hP0⟩
  clear ha hb A0 A1 B0 B1 A1' B1' hP0 hP1
  go_enter Try.func41, Try.ntmps41
  go_wp2_with fail
  go_quiet ((first | (go_at_call 74; exact quiet (abs_calls _ _ (by first | exact HA.out | exact HB.out))) | (go_at_call 73; exact quiet (M.out _))))
  obtain ⟨hi, lo, e1, e2, h1, h2, h3, h4, h5⟩ := Z.out
  obtain ⟨r1, r2⟩ := rnd_parts h5 e1 e2
  have E1 : Go.bits .and .u64 lo 1073741823 = lo % 1073741824 := and30 h3 h4
  have E2 : Go.bits .or .u64 (hi * 17179869184) (lo / 1073741824) = hi * 17179869184 + lo / 1073741824 := or34 h1 (by omega) (by omega) (by omega)
  have q0 : 0 ≤ hi * 17179869184 + lo / 1073741824 := by omega
  have q1 : hi * 17179869184 + lo / 1073741824 ≤ 1152921504606846976 + 17179869184 := by omega
  have l0 : 0 ≤ lo / 1073741824 := by omega
  have HQ : Aside0 (R = signR (!(decide (a < 0) == decide (b < 0))) (hi * 17179869184 + lo / 1073741824 + (if lo % 1073741824 > 536870912 ∨ (lo % 1073741824 = 536870912 ∧ (hi * 17179869184 + lo / 1073741824) % 2 = 1) then 1 else 0))) := ⟨by rw [HR.out]; unfold rnd30; rw [r1, r2]⟩
  rw [e1, e2]
  generalize hq : hi * 17179869184 + lo / 1073741824 = qq at *
  generalize hr : lo % 1073741824 = rst at *
  clear M Z HR r1 r2 e1 e2 h4 h5 HA HB hq hr
  have Q1 := Aside0.mk q1
  clear q1
  have mod : Int.tmod qq 2 = qq % 2 := tmod_pos q0
  have Hmod := Aside0.mk mod
  clear mod
  have fin : ∀ (q : Int) (w1 : World), (w1 = (w.alloc (.cells #[.int .i64 a, .int .i64 b] 50)).drewN nq) → 0 ≤ q → q ≤ 2305843009213693952 → R = signR (!(decide (a < 0) == decide (b < 0))) q →
      Calls Try.prog 76 #[.bool (!(decide (a < 0) == decide (b < 0))), .int .u64 0, .int .u64 q] w1 fun e w' => e = .returned (.tuple #[.int .i64 R.1, .int .i64 R.2]) ∧ w1 = w' := by
    intro q w1 _ h0 h1 hR
    have := signed_calls (!(decide (a < 0) == decide (b < 0))) q w1 h0 (by omega)
    rwa [← hR] at this
  have Fin := Aside0.mk fin
  have hz : hi / 1073741824 = 0 := by omega
  clear fin
  by_cases c1 : 536870912 < rst
  · have HQ' : Aside0 (R = signR (!(decide (a < 0) == decide (b < 0))) (qq + 1)) := ⟨by rw [HQ.out, if_pos (.inl c1)]⟩
    have A1 := fun w => add64_run qq 1 0 q0 (by omega) (by omega) (by omega) w
    have e1 : (qq + 1 + 0) % 18446744073709551616 = qq + 1 := by have := Q1.out; omega
    have e2 : (qq + 1 + 0) / 18446744073709551616 = 0 := by have := Q1.out; omega
    simp only [e1, e2] at A1
    clear e1 e2 HQ Hmod
    go_wp2_with fail
    refine (Fin.out (qq + 1) _ rfl (by omega) (by have := Q1.out; omega) HQ'.out).mono ?_
    rintro e w1 ⟨rfl, rfl⟩
    go_wp2
    go_ret2
    exact ⟨rfl, pw_below_drewN (below_alloc (Below.refl _ _) _) _⟩
  · by_cases c2 : rst = 536870912
    · subst c2
      by_cases c3 : qq % 2 = 1
      · have HQ' : Aside0 (R = signR (!(decide (a < 0) == decide (b < 0))) (qq + 1)) := ⟨by rw [HQ.out, if_pos (.inr ⟨rfl, c3⟩)]⟩
        have m1 : (Int.tmod qq 2 == 1) = true := by rw [Hmod.out, c3]; rfl
        have m2 : (qq % 2 == 1) = true := by rw [c3]; rfl
        clear c3
        have A1 := fun w => add64_run qq 1 0 q0 (by omega) (by omega) (by omega) w
        have e1 : (qq + 1 + 0) % 18446744073709551616 = qq + 1 := by have := Q1.out; omega
        have e2 : (qq + 1 + 0) / 18446744073709551616 = 0 := by have := Q1.out; omega
        simp only [e1, e2] at A1
        clear e1 e2 HQ Hmod
        go_wp2_with fail
        refine (Fin.out (qq + 1) _ rfl (by omega) (by have := Q1.out; omega) HQ'.out).mono ?_
        rintro e w1 ⟨rfl, rfl⟩
        go_wp2
        go_ret2
        exact ⟨rfl, pw_below_drewN (below_alloc (Below.refl _ _) _) _⟩
      · have HQ' : Aside0 (R = signR (!(decide (a < 0) == decide (b < 0))) qq) := ⟨by rw [HQ.out, if_neg (by rintro (h | ⟨_, h⟩); exact c1 h; exact c3 h), Int.add_zero]⟩
        have m2 : (qq % 2 == 1) = false := by simpa using c3
        have m1 : (Int.tmod qq 2 == 1) = false := by rw [Hmod.out, m2]
        clear c3 HQ Hmod
        go_wp2_with fail
        refine (Fin.out qq _ rfl (by omega) (by have := Q1.out; omega) HQ'.out).mono ?_
        rintro e w1 ⟨rfl, rfl⟩
        go_wp2
        go_ret2
        exact ⟨rfl, pw_below_drewN (below_alloc (Below.refl _ _) _) _⟩
    · have HQ' : Aside0 (R = signR (!(decide (a < 0) == decide (b < 0))) qq) := ⟨by rw [HQ.out, if_neg (by rintro (h | ⟨h, _⟩); exact c1 h; exact c2 h), Int.add_zero]⟩
      have m1 : (rst == 536870912) = false := by simpa using c2
      clear HQ Hmod c2
      go_wp2_with fail
      refine (Fin.out qq _ rfl (by omega) (by have := Q1.out; omega) HQ'.out).mono ?_
      rintro e w1 ⟨rfl, rfl⟩
      go_wp2
      go_ret2
      exact ⟨rfl, pw_below_drewN (below_alloc (Below.refl _ _) _) _⟩

theorem reckon_times (F : Int × Int) (a b : Int) (w : World) (ha : wd a = true) (hb : wd b = true) (H : ∀ w, Calls Try.prog 41 #[.agg #[.int .i64 a, .int .i64 b]] w (PairPost F w)) :
    Calls Try.prog 40 #[.agg #[.int .i64 a, .int .i64 b], .func (.func 41) #[] #[]] w (PairPost F w) := by
  have hall : Aside0 (allw [a, b] = true) := ⟨by simp [allw, ha, hb]⟩
  have HH := Aside0.mk H
  clear H ha hb
  go_enter Try.func40, Try.ntmps40
  go_wp2_with fail
  refine (all_calls [a, b] _ _ _ (pair_row _ a b (w.heap.size + 1) (by have := blk_new (w.alloc (.cells #[.int .i64 a, .int .i64 b] 50)) (.cells #[.int .i64 a, .int .i64 b] 2); simpa using this))).mono ?_
  rintro e w1 ⟨rfl, rfl⟩
  rw [hall.out]
  go_wp2_with fail
  refine (HH.out _).mono ?_
  rintro e w1 ⟨rfl, hB⟩
  have HB := Aside0.mk hB
  clear hB
  go_wp2
  go_ret2
  exact ⟨rfl, (below_alloc (below_alloc (Below.refl _ _) _) _).trans (HB.out.mono (by simp; omega))⟩
theorem reckon_times_no (a b : Int) (w : World) (h : (wd a && wd b) = false) :
    Calls Try.prog 40 #[.agg #[.int .i64 a, .int .i64 b], .func (.func 41) #[] #[]] w (PairPost (0, 1) w) := by
  have hall : Aside0 (allw [a, b] = false) := ⟨by simp only [allw, Bool.and_true]; exact h⟩
  clear h
  go_enter Try.func40, Try.ntmps40
  go_wp2_with fail
  refine (all_calls [a, b] _ _ _ (pair_row _ a b (w.heap.size + 1) (by have := blk_new (w.alloc (.cells #[.int .i64 a, .int .i64 b] 50)) (.cells #[.int .i64 a, .int .i64 b] 2); simpa using this))).mono ?_
  rintro e w1 ⟨rfl, rfl⟩
  rw [hall.out]
  go_wp2
  go_ret2
  exact ⟨rfl, below_alloc (below_alloc (Below.refl _ _) _) _⟩
theorem mul_yes (a b : Int) (w : World) (ha : wd a = true) (hb : wd b = true) : Calls Try.prog 13 #[.int .i64 a, .int .i64 b] w (PairPost (timesR a b) w) := by
  go_enter Try.func13, Try.ntmps13
  go_wp2_with fail
  refine (reckon_times _ _ _ _ ha hb (fun w => times_calls _ _ w ha hb)).mono ?_
  rintro e w1 ⟨rfl, hB⟩
  have HB := Aside0.mk hB
  clear hB
  go_wp2
  go_ret2
  exact ⟨rfl, HB.out⟩
theorem mul_no (a b : Int) (w : World) (h : (wd a && wd b) = false) : Calls Try.prog 13 #[.int .i64 a, .int .i64 b] w (PairPost (0, 1) w) := by
  go_enter Try.func13, Try.ntmps13
  go_wp2_with fail
  refine (reckon_times_no _ _ _ h).mono ?_
  rintro e w1 ⟨rfl, hB⟩
  have HB := Aside0.mk hB
  clear hB
  go_wp2
  go_ret2
  exact ⟨rfl, HB.out⟩
end
end Go.Proofs.Ythokdnheijnmmaa.FxWalk
