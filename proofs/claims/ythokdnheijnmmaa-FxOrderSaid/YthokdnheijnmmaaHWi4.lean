/- Package whole's functions over whole numbers, by the reckoner: Small, Len, Right, Even. -/
import Derived.Test.YthokdnheijnmmaaHWi3
set_option linter.unusedVariables false
set_option linter.unusedSimpArgs false
namespace Go.Proofs.Ythokdnheijnmmaa.Wh
open Go Go.RowKit Go.Proofs.YthokdnheijnmmaaW.PrintWords Go.Proofs.YthokdnheijnmmaaW.PrintMore Go.Proofs.YthokdnheijnmmaaW.Aid Go.Proofs.YthokdnheijnmmaaW.Big Go.Proofs.YthokdnheijnmmaaW.Sx Go.Proofs.Ythokdnheijnmmaa.BitsWalk Go.Proofs.Ythokdnheijnmmaa.Limbs Go.Proofs.Ythokdnheijnmmaa.Whole Go.Proofs
/-- What Small tells. -/
def smallI (x : Int) : Int × Bool := if -9223372036854775808 ≤ x ∧ x ≤ 9223372036854775807 then (x, true) else (0, false)
abbrev tNB (z : Int) (b : Bool) : TV := .tup [(false, [.v (.int .i64 z)]), (false, [.v (.bool b)])]
theorem nb_eq {z z' : Int} {b b' : Bool} (h : (z, b) = (z', b')) : (some (CR.tv (tNB z b)) : Option CR) = some (CR.tv (tNB z' b')) := by cases h; rfl
theorem low_word {x : Int} (h0 : x ≠ 0) (h : ¬ ((lm x).length : Int) > 1) : rd (lm x) 0 = (x.natAbs : Int) := by
  have e : lm x = ((x.natAbs % 18446744073709551616 : Nat) : Int) :: limbs (x.natAbs / 18446744073709551616) := limbs_pos (by omega)
  have e1 : rd (lm x) 0 = ((x.natAbs % 18446744073709551616 : Nat) : Int) := by rw [e]; rfl
  have : (limbs (x.natAbs / 18446744073709551616)).length = 0 := by
    rw [e, List.length_cons] at h; omega
  have := limbs_ne.1 (List.length_eq_zero_iff.1 this)
  rw [e1]; omega
theorem low_many {x : Int} (h : ((lm x).length : Int) > 1) : 18446744073709551616 ≤ x.natAbs := by
  rcases Nat.lt_or_ge x.natAbs 18446744073709551616 with h1 | h1
  · have := lm_one x h1; omega
  · exact h1
theorem len_gt {x : Int} (h : (((lm x).length : Int) == 0) = false) : (0 : Int) < ((lm x).length : Int) := by
  have := beq_eq_false_iff_ne.1 h
  omega
theorem small_yes {x : Int} (h : -9223372036854775808 ≤ x ∧ x ≤ 9223372036854775807) : smallI x = (x, true) := if_pos h
theorem small_no {x : Int} (h : ¬ (-9223372036854775808 ≤ x ∧ x ≤ 9223372036854775807)) : smallI x = (0, false) := if_neg h
theorem small0 {x : Int} (h : (((lm x).length : Int) == 0) = true) : ((0 : Int), true) = ((smallI x).1, (smallI x).2) := by
  have h1 := lm_nil'.1 (show (lm x).length = 0 by have := beq_iff_eq.1 h; omega)
  rw [small_yes (by omega), h1]
theorem small1 {x : Int} (h : decide (((lm x).length : Int) > 1) = true) : ((0 : Int), false) = ((smallI x).1, (smallI x).2) := by
  have h1 := low_many (of_decide_eq_true h)
  rw [small_no (by omega)]
theorem nz_of {x : Int} (h : (((lm x).length : Int) == 0) = false) : x ≠ 0 := fun e => by
  have h1 := lm_nil'.2 e
  have := beq_eq_false_iff_ne.1 h
  omega
theorem i64_wrap (x : Int) : IntKind.i64.wrap x = wrap64 x := by unfold wrap64; exact IntKind.wrap_i64 x
theorem small2 {x : Int} (h0 : (((lm x).length : Int) == 0) = false) (h1 : decide (((lm x).length : Int) > 1) = false) (h : (bif sgn x then decide (rd (lm x) 0 ≤ 9223372036854775808) else false) = true) : (IntKind.i64.wrap (IntKind.u64.wrap (0 - rd (lm x) 0)), true) = ((smallI x).1, (smallI x).2) := by
  have e := low_word (nz_of h0) (of_decide_eq_false h1)
  have hs := sgn_t (and1 h)
  have hr := of_decide_eq_true (and2 h)
  rw [e] at hr ⊢
  have e2 : wrap64 ((0 - (x.natAbs : Int)) % 18446744073709551616) = x := by unfold wrap64; omega
  rw [small_yes (by omega), u64_wrap, i64_wrap, e2]
theorem small3 {x : Int} (h0 : (((lm x).length : Int) == 0) = false) (h1 : decide (((lm x).length : Int) > 1) = false) (h : (bif !sgn x then decide (rd (lm x) 0 < 9223372036854775808) else false) = true) : (IntKind.i64.wrap (rd (lm x) 0), true) = ((smallI x).1, (smallI x).2) := by
  have e := low_word (nz_of h0) (of_decide_eq_false h1)
  have hs := sgn_f (show sgn x = false by have := and1 h; simpa using this)
  have hr := of_decide_eq_true (and2 h)
  rw [e] at hr ⊢
  have e2 : wrap64 (x.natAbs : Int) = x := by unfold wrap64; omega
  rw [small_yes (by omega), i64_wrap, e2]
theorem small4 {x : Int} (h0 : (((lm x).length : Int) == 0) = false) (h1 : decide (((lm x).length : Int) > 1) = false) (h : (bif sgn x then decide (rd (lm x) 0 ≤ 9223372036854775808) else false) = false) (h' : (bif !sgn x then decide (rd (lm x) 0 < 9223372036854775808) else false) = false) : ((0 : Int), false) = ((smallI x).1, (smallI x).2) := by
  have e := low_word (nz_of h0) (of_decide_eq_false h1)
  rw [e] at h h'
  rw [small_no]
  intro hc
  cases hs : sgn x with
  | true =>
    have h2 := sgn_t hs
    have := of_decide_eq_false (and3 h hs)
    omega
  | false =>
    have h2 := sgn_f hs
    rw [hs] at h'
    have := of_decide_eq_false (and3 h' rfl)
    omega
theorem even_eq (x : Int) : (bif (((lm x).length : Int) == 0) then true else (rd (lm x) 0).tmod 2 == 0) = decide (x % 2 = 0) := by
  by_cases h : x = 0
  · have := lm_nil'.2 h
    rw [this, h]; rfl
  · have h1 : (((lm x).length : Int) == 0) = false := beq_eq_false_iff_ne.2 (by have := lm_nil' (x := x); omega)
    have e : lm x = ((x.natAbs % 18446744073709551616 : Nat) : Int) :: limbs (x.natAbs / 18446744073709551616) := limbs_pos (by omega)
    have e1 : rd (lm x) 0 = ((x.natAbs % 18446744073709551616 : Nat) : Int) := by rw [e]; rfl
    rw [h1, e1, Int.tmod_eq_emod_of_nonneg (by omega)]
    rw [cond_false, Bool.eq_iff_iff, beq_iff_eq, decide_eq_true_eq]
    omega
theorem ofS_div {x : Int} (h : 0 ≤ x) (k : Nat) : ofS false (x.natAbs / 2 ^ k) = x / 2 ^ k := by
  obtain ⟨m, rfl⟩ : ∃ m : Nat, x = (m : Int) := ⟨x.natAbs, by omega⟩
  rw [Int.natAbs_natCast]
  unfold ofS
  simp
section
set_option maxRecDepth 100000
set_option maxHeartbeats 1000000
def cSmall : Con Try.prog := con1 79 (fun x => True) (fun x => .tv (tNB (smallI x).1 (smallI x).2)) ⟨_, Try.func79, by kernel_rfl, rfl⟩ (fun x A c w hl hr => by
  refine fn_ret (cxOk Try.prog ints_ok [] []) follows Try.func79 rfl 100 _ rfl (by simp) ?_ (args1 hr)
  repeat' first
    | exact trivial
    | (refine And.intro (show regChk _ _ _ _ _ = true from by kernel_rfl) (And.intro ?_ ?_))
    | (refine And.intro (fun hb => ?_) (fun hb' => ?_))
    | refine And.intro ?_ ?_
    | (intro hc; exact beq_iff_eq.2 hc)
    | (show ¬ _; show (2 : Int) ≠ 0; decide)
    | intro _
  all_goals first
    | (show some (CR.tv (tNB _ _)) = some (CR.tv (tNB _ _)); first | exact nb_eq (small0 (by assumption)) | exact nb_eq (small1 (by assumption)) | exact nb_eq (small2 (by assumption) (by assumption) (by assumption)) | exact nb_eq (small3 (by assumption) (by assumption) (by assumption)) | exact nb_eq (small4 (by assumption) (by assumption) (by assumption) (by assumption)))
    | (show (_ : Int) ≤ _; decide)
    | (show (_ : Int) < _; exact len_gt (by assumption))
    | assumption
    | exact beq_iff_eq.2 (by assumption))
def cEven : Con Try.prog := con1 99 (fun x => True) (fun x => .tv (tB (decide (x % 2 = 0)))) ⟨_, Try.func99, by kernel_rfl, rfl⟩ (fun x A c w hl hr => by
  refine fn_ret (cxOk Try.prog ints_ok [] []) follows Try.func99 rfl 100 _ rfl (by simp) ?_ (args1 hr)
  repeat' first
    | exact trivial
    | (refine And.intro (show regChk _ _ _ _ _ = true from by kernel_rfl) (And.intro ?_ ?_))
    | (refine And.intro (fun hb => ?_) (fun hb' => ?_))
    | refine And.intro ?_ ?_
    | (intro hc; exact beq_iff_eq.2 hc)
    | (show ¬ _; show (2 : Int) ≠ 0; decide)
    | intro _
  all_goals first
    | (show some (CR.tv (tB _)) = some (CR.tv (tB _)); exact tB_eq (even_eq x))
    | (show (_ : Int) ≤ _; decide)
    | (show (_ : Int) < _; exact len_gt (beq_iff_eq.1 (by assumption)))
    | (show ¬ _; show (2 : Int) ≠ 0; decide)
    | assumption
    | exact beq_iff_eq.2 (by assumption))
def cRight : Con Try.prog := con1n 90 (fun x n => Len0 x ∧ 0 ≤ x ∧ 0 ≤ n ∧ n ≤ 6400) (fun x n => .tv (tI (x / 2 ^ n.toNat))) ⟨_, Try.func90, by kernel_rfl, rfl⟩ (fun x n A c w hl hr => by
  refine fn_ret (cxOk Try.prog ints_ok [] lowK) follows Try.func90 rfl 100 _ rfl (by simp) ?_ (args1n hr)
  have hs : sgn x = false := by unfold sgn; simp; omega
  repeat' first
    | exact trivial
    | (refine And.intro (show regChk _ _ _ _ _ = true from by kernel_rfl) (And.intro ?_ ?_))
    | (refine And.intro (fun hb => ?_) (fun hb' => ?_))
    | refine And.intro ?_ ?_
    | (intro hc; exact beq_iff_eq.2 hc)
    | (show ¬ _; show (2 : Int) ≠ 0; decide)
    | intro _
  all_goals first
    | (show some (CR.tv (tI _)) = some (CR.tv (tI _)); exact wh_eq (by rw [hs, Int.natAbs_natCast]; exact ofS_div hl.2.1 _))
    | exact hl.1
    | exact hl.2.2.1
    | exact hl.2.2.2
    | exact absurd (show (sgn x == true) = true by assumption) (by rw [hs]; decide)
    | exact absurd (show sgn x = true by assumption) (by rw [hs]; decide)
    | exact absurd (and1 (show (bif sgn x then _ else false) = true by assumption)) (by rw [hs]; decide))
end
end Go.Proofs.Ythokdnheijnmmaa.Wh
