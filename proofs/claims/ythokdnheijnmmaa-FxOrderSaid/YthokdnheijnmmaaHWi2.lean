/- Package whole's functions over whole numbers, by the reckoner: Power, Add, Sub, Cmp, Zero, Even. -/
import Derived.Test.YthokdnheijnmmaaHWi
set_option linter.unusedVariables false
set_option linter.unusedSimpArgs false
namespace Go.Proofs.Ythokdnheijnmmaa.Wh
open Go Go.RowKit Go.Proofs.YthokdnheijnmmaaW.PrintWords Go.Proofs.YthokdnheijnmmaaW.PrintMore Go.Proofs.YthokdnheijnmmaaW.Aid Go.Proofs.YthokdnheijnmmaaW.Big Go.Proofs.YthokdnheijnmmaaW.Sx Go.Proofs.Ythokdnheijnmmaa.BitsWalk Go.Proofs.Ythokdnheijnmmaa.Limbs Go.Proofs.Ythokdnheijnmmaa.Whole Go.Proofs
/-- -1, 0, 1. -/
def cmpI (x y : Int) : Int := if x < y then -1 else if y < x then 1 else 0
theorem lm_neg' (x : Int) : lm (-x) = lm x := by unfold lm; rw [Int.natAbs_neg]
theorem sgn_t {x : Int} (h : sgn x = true) : x < 0 := by unfold sgn at h; simpa using h
theorem sgn_f {x : Int} (h : sgn x = false) : 0 ≤ x := by unfold sgn at h; simp at h; exact h
theorem lm_nil' {x : Int} : (lm x).length = 0 ↔ x = 0 := by
  unfold lm
  rw [List.length_eq_zero_iff, limbs_ne]
  omega
theorem cmp_lt {x y : Int} (h : decide (cmpR x.natAbs y.natAbs < 0) = true) : x.natAbs ≤ y.natAbs := by
  have h := of_decide_eq_true h
  unfold cmpR at h
  split at h
  · omega
  · split at h <;> omega
theorem cmp_ge {x y : Int} (h : decide (cmpR x.natAbs y.natAbs < 0) = false) : y.natAbs ≤ x.natAbs := by
  have h := of_decide_eq_false h
  unfold cmpR at h
  split at h
  · omega
  · omega
theorem tN_eq {k : IntKind} {z z' : Int} (h : z = z') : (some (CR.tv (tN k z)) : Option CR) = some (CR.tv (tN k z')) := by rw [h]
theorem tB_eq {z z' : Bool} (h : z = z') : (some (CR.tv (tB z)) : Option CR) = some (CR.tv (tB z')) := by rw [h]
theorem cmpI_pp {x y : Int} (hx : 0 ≤ x) (hy : 0 ≤ y) : cmpR x.natAbs y.natAbs = cmpI x y := by
  unfold cmpR cmpI
  by_cases h1 : x < y
  · rw [if_pos h1, if_pos (by omega)]
  · rw [if_neg h1, if_neg (by omega)]
    by_cases h2 : y < x
    · rw [if_pos h2, if_pos (by omega)]
    · rw [if_neg h2, if_neg (by omega)]
theorem cmpI_nn {x y : Int} (hx : x < 0) (hy : y < 0) : cmpR y.natAbs x.natAbs = cmpI x y := by
  unfold cmpR cmpI
  by_cases h1 : x < y
  · rw [if_pos h1, if_pos (by omega)]
  · rw [if_neg h1, if_neg (by omega)]
    by_cases h2 : y < x
    · rw [if_pos h2, if_pos (by omega)]
    · rw [if_neg h2, if_neg (by omega)]
theorem and1 {a b : Bool} (h : (bif a then b else false) = true) : a = true := by cases a <;> simp_all
theorem and2 {a b : Bool} (h : (bif a then b else false) = true) : b = true := by cases a <;> simp_all
theorem and3 {a b : Bool} (h : (bif a then b else false) = false) (ha : a = true) : b = false := by cases a <;> simp_all
theorem cmpI_np {x y : Int} (hx : x < 0) (hy : 0 ≤ y) : -1 = cmpI x y := by unfold cmpI; rw [if_pos (by omega)]
theorem cmpI_pn {x y : Int} (hx : 0 ≤ x) (hy : y < 0) : 1 = cmpI x y := by unfold cmpI; rw [if_neg (by omega), if_pos (by omega)]
section
set_option maxRecDepth 100000
set_option maxHeartbeats 1000000
def cPower : Con Try.prog := conN 88 (fun n => 0 ≤ n ∧ n ≤ 6400) (fun n => .tv (tI (2 ^ n.toNat))) ⟨_, Try.func88, by kernel_rfl, rfl⟩ (fun n w hl => by
  refine fn_ret (cxOk Try.prog ints_ok [] [cOne, cLeft]) follows Try.func88 rfl 100 _ rfl (by simp) ?_ (xs := [tN .i64 n]) (.cons rfl .nil)
  have e : Len0 1 := by rw [Len0, show lm 1 = [1] from limbs_word (n := 1) (by omega) (by omega)]; simp
  repeat' first
    | exact trivial
    | (refine And.intro (show regChk _ _ _ _ _ = true from by kernel_rfl) (And.intro ?_ ?_))
    | refine And.intro ?_ ?_
    | exact e
    | exact hl.1
    | exact hl.2
    | exact wh_eq (Int.one_mul _)
    | exact rfl)
def cAdd : Con Try.prog := con2 83 (fun x y => Len0 x ∧ Len0 y) (fun x y => .tv (tI (x + y))) ⟨_, Try.func83, by kernel_rfl, rfl⟩ (fun x y A A' c c' w hl hr hr' => by
  refine fn_ret (cxOk Try.prog ints_ok [] lowK) follows Try.func83 rfl 100 _ rfl (by simp) ?_ (args2 hr hr')
  repeat' first
    | exact trivial
    | (refine And.intro (show regChk _ _ _ _ _ = true from by kernel_rfl) (And.intro ?_ ?_))
    | (refine And.intro (fun hb => ?_) (fun hb' => ?_))
    | refine And.intro ?_ ?_
    | exact hl.1
    | exact hl.2
    | exact cmp_lt (by assumption)
    | exact cmp_ge (by assumption)
    | exact wh_eq (ofS_add' (by assumption))
    | exact wh_eq (ofS_sub' (by assumption) (cmp_ge (by assumption)))
    | exact wh_eq ((ofS_sub' (x := y) (y := x) (by rw [show (sgn y == sgn x) = (sgn x == sgn y) from Bool.beq_comm]; assumption) (cmp_lt (by assumption))).trans (Int.add_comm _ _)))
def cSub : Con Try.prog := con2 109 (fun x y => Len0 x ∧ Len0 y) (fun x y => .tv (tI (x - y))) ⟨_, Try.func109, by kernel_rfl, rfl⟩ (fun x y A A' c c' w hl hr hr' => by
  refine fn_ret (cxOk Try.prog ints_ok [] [cAdd, cOf]) follows Try.func109 rfl 100 _ rfl (by simp) ?_ (args2 hr hr')
  have e := ofS_neg' y
  have e2 : Len0 (ofS (!(sgn y)) y.natAbs) := by rw [e, Len0, lm_neg']; exact hl.2
  repeat' first
    | exact trivial
    | (refine And.intro (show regChk _ _ _ _ _ = true from by kernel_rfl) (And.intro ?_ ?_))
    | refine And.intro ?_ ?_
    | exact hl.1
    | exact e2
    | exact wh_eq (by rw [e]; omega)
    | exact rfl)
def cCmp : Con Try.prog := con2 82 (fun x y => True) (fun x y => .tv (tN .i64 (cmpI x y))) ⟨_, Try.func82, by kernel_rfl, rfl⟩ (fun x y A A' c c' w hl hr hr' => by
  refine fn_ret (cxOk Try.prog ints_ok [] lowK) follows Try.func82 rfl 100 _ rfl (by simp) ?_ (args2 hr hr')
  repeat' first
    | exact trivial
    | (refine And.intro (show regChk _ _ _ _ _ = true from by kernel_rfl) (And.intro ?_ ?_))
    | (refine And.intro (fun hb => ?_) (fun hb' => ?_))
    | refine And.intro ?_ ?_
    | (intro hc; exact beq_iff_eq.2 hc)
    | exact beq_iff_eq.2 (by assumption)
    | intro _
    | assumption
    | exact tN_eq (cmpI_nn (sgn_t (and1 (by assumption))) (sgn_t (and2 (by assumption))))
    | exact tN_eq (cmpI_np (sgn_t (by assumption)) (sgn_f (and3 (by assumption) (by assumption))))
    | exact tN_eq (cmpI_pn (sgn_f (by assumption)) (sgn_t (by assumption)))
    | exact tN_eq (cmpI_pp (sgn_f (by assumption)) (sgn_f (by assumption)))
    | exact rfl)
def cZero : Con Try.prog := con1 87 (fun x => True) (fun x => .tv (tB (decide (x = 0)))) ⟨_, Try.func87, by kernel_rfl, rfl⟩ (fun x A c w hl hr => by
  refine fn_ret (cxOk Try.prog ints_ok [] lowK) follows Try.func87 rfl 100 _ rfl (by simp) ?_ (args1 hr)
  repeat' first
    | exact trivial
    | (refine And.intro (show regChk _ _ _ _ _ = true from by kernel_rfl) (And.intro ?_ ?_))
    | refine And.intro ?_ ?_
    | exact tB_eq (show (((lm x).length : Int) == 0) = _ by rw [Bool.eq_iff_iff]; simp only [beq_iff_eq, decide_eq_true_eq]; have := lm_nil' (x := x); omega))
end
end Go.Proofs.Ythokdnheijnmmaa.Wh
