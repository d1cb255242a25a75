/- Package whole's functions over whole numbers, by the reckoner. -/
import Derived.Test.YthokdnheijnmmaaHWh
import Derived.Lib.ItoaNum
set_option linter.unusedVariables false
set_option linter.unusedSimpArgs false
namespace Go.Proofs.Ythokdnheijnmmaa.Wh
open Go Go.RowKit Go.Proofs.YthokdnheijnmmaaW.PrintWords Go.Proofs.YthokdnheijnmmaaW.PrintMore Go.Proofs.YthokdnheijnmmaaW.Aid Go.Proofs.YthokdnheijnmmaaW.Big Go.Proofs.YthokdnheijnmmaaW.Sx Go.Proofs.Ythokdnheijnmmaa.BitsWalk Go.Proofs.Ythokdnheijnmmaa.Limbs Go.Proofs.Ythokdnheijnmmaa.Whole Go.Proofs
theorem wh_eq {z z' : Int} (h : z = z') : (some (CR.tv (tI z)) : Option CR) = some (CR.tv (tI z')) := by rw [h]
theorem args1 {w : World} {x : Int} {A : Option Addr} {c : Nat} (hr : Rd w (lm x) A c) : All2 (TV.reads (fun _ => 0) w.heap.size w) [tI x] [ivl x A c] := .cons (told_int hr) .nil
theorem args2 {w : World} {x y : Int} {A A' : Option Addr} {c c' : Nat} (hr : Rd w (lm x) A c) (hr' : Rd w (lm y) A' c') : All2 (TV.reads (fun _ => 0) w.heap.size w) [tI x, tI y] [ivl x A c, ivl y A' c'] := .cons (told_int hr) (.cons (told_int hr') .nil)
theorem args1n {w : World} {x n : Int} {A : Option Addr} {c : Nat} (hr : Rd w (lm x) A c) : All2 (TV.reads (fun _ => 0) w.heap.size w) [tI x, tN .i64 n] [ivl x A c, .int .i64 n] := .cons (told_int hr) (.cons rfl .nil)
abbrev Len0 (x : Int) : Prop := (lm x).length ≤ 1000
theorem ofS_neg' (x : Int) : ofS (!(sgn x)) x.natAbs = -x := by
  unfold ofS sgn
  by_cases h : x < 0
  · simp [h]; omega
  · simp [h]; omega
theorem ofS_mul' (x : Int) (k : Nat) : ofS (sgn x) (x.natAbs * k) = x * k := by
  unfold ofS sgn
  by_cases h : x < 0
  · have e : x = -((x.natAbs : Nat) : Int) := by omega
    simp only [h, decide_true, if_true, Int.natCast_mul]
    conv => rhs; rw [e]
    rw [Int.neg_mul]
  · have e : x = ((x.natAbs : Nat) : Int) := by omega
    simp only [h, decide_false, Bool.false_eq_true, if_false, Int.natCast_mul]
    conv => rhs; rw [e]
theorem ofS_prod' (x y : Int) : ofS (!(sgn x == sgn y)) (x.natAbs * y.natAbs) = x * y := by
  unfold ofS sgn
  by_cases h : x < 0 <;> by_cases h' : y < 0
  · simp only [h, h', decide_true, beq_self_eq_true, Bool.not_true, Bool.false_eq_true, if_false, Int.natCast_mul]
    rw [show ((x.natAbs : Nat) : Int) = -x by omega, show ((y.natAbs : Nat) : Int) = -y by omega, Int.neg_mul_neg]
  · simp only [h, h', decide_true, decide_false, show (true == false) = false from rfl, Bool.not_false, if_true, Int.natCast_mul]
    rw [show ((x.natAbs : Nat) : Int) = -x by omega, show ((y.natAbs : Nat) : Int) = y by omega, Int.neg_mul, Int.neg_neg]
  · simp only [h, h', decide_true, decide_false, show (false == true) = false from rfl, Bool.not_false, if_true, Int.natCast_mul]
    rw [show ((x.natAbs : Nat) : Int) = x by omega, show ((y.natAbs : Nat) : Int) = -y by omega, Int.mul_neg, Int.neg_neg]
  · simp only [h, h', decide_false, beq_self_eq_true, Bool.not_true, Bool.false_eq_true, if_false, Int.natCast_mul]
    rw [show ((x.natAbs : Nat) : Int) = x by omega, show ((y.natAbs : Nat) : Int) = y by omega]
theorem ofS_add' {x y : Int} (h : (sgn x == sgn y) = true) : ofS (sgn x) (x.natAbs + y.natAbs) = x + y := by
  unfold ofS sgn at *
  by_cases hx : x < 0 <;> by_cases hy : y < 0 <;> simp [hx, hy] at h ⊢ <;> omega
theorem ofS_sub' {x y : Int} (h : (sgn x == sgn y) = false) (hl : y.natAbs ≤ x.natAbs) : ofS (sgn x) (x.natAbs - y.natAbs) = x + y := by
  unfold ofS sgn at *
  by_cases hx : x < 0 <;> by_cases hy : y < 0 <;> simp [hx, hy] at h ⊢ <;> omega
section
set_option maxRecDepth 100000
set_option maxHeartbeats 1000000
def cNeg : Con Try.prog := con1 80 Len0 (fun x => .tv (tI (-x))) ⟨_, Try.func80, by kernel_rfl, rfl⟩ (fun x A c w hl hr => by
  refine fn_ret (cxOk Try.prog ints_ok [] lowK) follows Try.func80 rfl 100 _ rfl (by simp) ?_ (args1 hr)
  repeat' first
    | exact trivial
    | (refine And.intro (show regChk _ _ _ _ _ = true from by kernel_rfl) (And.intro ?_ ?_))
    | refine And.intro ?_ ?_
    | exact hl
    | exact wh_eq (ofS_neg' x))
def cOne : Con Try.prog := con0 62 (.tv (tI 1)) ⟨_, Try.func62, by kernel_rfl, rfl⟩ (fun w => by
  refine fn_ret (cxOk Try.prog ints_ok [] lowK) follows Try.func62 rfl 100 _ rfl (by simp) ?_ .nil
  repeat' first
    | exact trivial
    | (refine And.intro (show regChk _ _ _ _ _ = true from by kernel_rfl) (And.intro ?_ ?_))
    | refine And.intro ?_ ?_
    | exact rfl
    | decide)
def cLeft : Con Try.prog := con1n 61 (fun x n => Len0 x ∧ 0 ≤ n ∧ n ≤ 6400) (fun x n => .tv (tI (x * 2 ^ n.toNat))) ⟨_, Try.func61, by kernel_rfl, rfl⟩ (fun x n A c w hl hr => by
  refine fn_ret (cxOk Try.prog ints_ok [] lowK) follows Try.func61 rfl 100 _ rfl (by simp) ?_ (args1n hr)
  have e := ofS_mul' x (2 ^ n.toNat)
  rw [Int.natCast_pow] at e
  repeat' first
    | exact trivial
    | (refine And.intro (show regChk _ _ _ _ _ = true from by kernel_rfl) (And.intro ?_ ?_))
    | refine And.intro ?_ ?_
    | exact hl.1
    | exact hl.2.1
    | exact hl.2.2
    | exact wh_eq e)
def cMul : Con Try.prog := con2 98 (fun x y => Len0 x ∧ (lm y).length < 24) (fun x y => .tv (tI (x * y))) ⟨_, Try.func98, by kernel_rfl, rfl⟩ (fun x y A A' c c' w hl hr hr' => by
  refine fn_ret (cxOk Try.prog ints_ok [] lowK) follows Try.func98 rfl 100 _ rfl (by simp) ?_ (args2 hr hr')
  repeat' first
    | exact trivial
    | (refine And.intro (show regChk _ _ _ _ _ = true from by kernel_rfl) (And.intro ?_ ?_))
    | refine And.intro ?_ ?_
    | exact hl.1
    | exact hl.2
    | exact wh_eq (ofS_prod' x y))
end
end Go.Proofs.Ythokdnheijnmmaa.Wh
