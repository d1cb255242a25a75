/- HWi3: HWi3, HWi4 in one text. -/
import Derived.Test.YthokdnheijnmmaaHWi
/- HWi3. -/
set_option linter.unusedVariables false
set_option linter.unusedSimpArgs false
namespace Go.Proofs.Ythokdnheijnmmaa.Wh
open Go Go.RowKit Go.Proofs.YthokdnheijnmmaaW.PrintWords Go.Proofs.YthokdnheijnmmaaW.PrintMore Go.Proofs.YthokdnheijnmmaaW.Aid Go.Proofs.YthokdnheijnmmaaW.Big Go.Proofs.YthokdnheijnmmaaW.Sx Go.Proofs.Ythokdnheijnmmaa.BitsWalk Go.Proofs.Ythokdnheijnmmaa.Limbs Go.Proofs.Ythokdnheijnmmaa.Whole Go.Proofs
theorem div_cases {x y : Int} (hy : 0 < y) : ∃ Q R : Nat, x.natAbs / y.natAbs = Q ∧ x.natAbs % y.natAbs = R ∧
    ((0 ≤ x ∧ x / y = (Q : Int) ∧ x % y = (R : Int)) ∨ (x < 0 ∧ R = 0 ∧ x / y = -(Q : Int) ∧ x % y = 0) ∨ (x < 0 ∧ 0 < R ∧ x / y = -(Q : Int) - 1 ∧ x % y = y - (R : Int))) := by
  refine ⟨_, _, rfl, rfl, ?_⟩
  obtain ⟨d, rfl⟩ : ∃ d : Nat, y = (d : Int) := ⟨y.natAbs, by omega⟩
  have hd : 0 < d := by omega
  rw [Int.natAbs_natCast]
  by_cases hx : 0 ≤ x
  · left
    obtain ⟨n, rfl⟩ : ∃ n : Nat, x = (n : Int) := ⟨x.natAbs, by omega⟩
    rw [Int.natAbs_natCast]
    exact ⟨by omega, by rw [Int.natCast_ediv], by rw [Int.natCast_emod]⟩
  · right
    obtain ⟨n, rfl⟩ : ∃ n : Nat, x = -(n : Int) := ⟨x.natAbs, by omega⟩
    rw [Int.natAbs_neg, Int.natAbs_natCast]
    have e := Nat.div_add_mod n d
    have hl := Nat.mod_lt n hd
    generalize hQ : n / d = Q at *
    generalize hR : n % d = R at *
    have e' : (n : Int) = (d : Int) * (Q : Int) + (R : Int) := by exact_mod_cast e.symm
    by_cases hr : R = 0
    · left
      subst hr
      have e2 : -(n : Int) = (d : Int) * (-(Q : Int)) := by rw [Int.mul_neg]; omega
      refine ⟨by omega, rfl, ?_, ?_⟩
      · rw [e2, Int.mul_ediv_cancel_left _ (by omega)]
      · rw [e2, Int.mul_emod_right]
    · right
      have e2 : -(n : Int) = ((d : Int) - (R : Int)) + (d : Int) * (-(Q : Int) - 1) := by
        rw [Int.mul_sub, Int.mul_neg, Int.mul_one]; omega
      refine ⟨by omega, by omega, ?_, ?_⟩
      · rw [e2, Int.add_mul_ediv_left _ _ (by omega), Int.ediv_eq_zero_of_lt (by omega) (by omega)]; omega
      · rw [e2, Int.add_mul_emod_self_left, Int.emod_eq_of_lt (by omega) (by omega)]
abbrev tQR (q r : Int) : TV := .tup [(true, [.neg q, .mag q]), (true, [.neg r, .mag r])]
theorem qr_eq {q r q' r' : Int} (h : q = q') (h' : r = r') : (some (CR.tv (tQR q r)) : Option CR) = some (CR.tv (tQR q' r')) := by rw [h, h']
theorem lm_one (x : Int) (h0 : x.natAbs < 18446744073709551616) : (lm x).length ≤ 1 := limbs_len (by simpa using h0)
theorem lm_le {x y : Int} (h : x.natAbs ≤ y.natAbs) : (lm x).length ≤ (lm y).length := len_mono' h
theorem lm_pos {x : Int} : (decide (((lm x).length : Int) > 0) = true) ↔ x ≠ 0 := by
  have := lm_nil' (x := x)
  rw [decide_eq_true_eq]
  omega
theorem dv1 {x y : Int} (hy : 0 < y) (hb : (bif decide (((lm ((x.natAbs % y.natAbs : Nat) : Int)).length : Int) > 0) then !(sgn x == sgn y) else false) = true) :
    ofS (!(sgn x == sgn y)) ((x.natAbs / y.natAbs : Nat) : Int).natAbs - 1 = x / y ∧ ofS (sgn x) ((x.natAbs % y.natAbs : Nat) : Int).natAbs + y = x % y ∧ ((x.natAbs / y.natAbs : Nat) : Int).natAbs ≤ x.natAbs ∧ ((x.natAbs % y.natAbs : Nat) : Int).natAbs ≤ y.natAbs := by
  obtain ⟨Q, R, e1, e2, h⟩ := div_cases (x := x) hy
  have h1 := lm_pos.1 (and1 hb)
  have h2 := and2 hb
  have hs : sgn y = false := by unfold sgn; simp; omega
  rw [hs] at h2 ⊢
  have hx : sgn x = true := by cases hh : sgn x <;> simp_all
  have hx' := sgn_t hx
  rw [hx, Int.natAbs_natCast, Int.natAbs_natCast, e1, e2]
  rw [e2] at h1
  have h3 : x.natAbs / y.natAbs ≤ x.natAbs := Nat.div_le_self _ _
  have h4 : x.natAbs % y.natAbs < y.natAbs := Nat.mod_lt _ (by omega)
  rw [e1] at h3
  rw [e2] at h4
  unfold ofS
  simp only [show (true == false) = false from rfl, Bool.not_false, if_true]
  rcases h with ⟨h, _⟩ | ⟨_, h, _⟩ | ⟨_, _, h5, h6⟩
  · omega
  · omega
  · exact ⟨by omega, by omega, h3, by omega⟩
theorem dv2 {x y : Int} (hy : 0 < y) (hb : (bif decide (((lm ((x.natAbs % y.natAbs : Nat) : Int)).length : Int) > 0) then !(sgn x == sgn y) else false) = false) :
    ofS (!(sgn x == sgn y)) ((x.natAbs / y.natAbs : Nat) : Int).natAbs = x / y ∧ ofS (sgn x) ((x.natAbs % y.natAbs : Nat) : Int).natAbs = x % y := by
  obtain ⟨Q, R, e1, e2, h⟩ := div_cases (x := x) hy
  have hs : sgn y = false := by unfold sgn; simp; omega
  rw [Int.natAbs_natCast, Int.natAbs_natCast, e1, e2]
  rw [e2, hs] at hb
  rw [hs]
  by_cases hx : x < 0
  · have hx' : sgn x = true := by unfold sgn; simpa using hx
    rw [hx'] at hb ⊢
    have hR : R = 0 := by
      by_cases h0 : R = 0
      · exact h0
      · have := lm_pos.2 (show ((R : Nat) : Int) ≠ 0 by omega)
        rw [this] at hb
        cases hb
    unfold ofS
    simp only [show (true == false) = false from rfl, Bool.not_false, if_true]
    rcases h with ⟨h, _⟩ | ⟨_, h, h5, h6⟩ | ⟨_, h, _⟩ <;> omega
  · have hx' : sgn x = false := by unfold sgn; simpa using hx
    rw [hx']
    unfold ofS
    simp only [beq_self_eq_true, Bool.not_true, Bool.false_eq_true, if_false]
    rcases h with ⟨h, h5, h6⟩ | ⟨h, _⟩ | ⟨h, _⟩ <;> omega
theorem len_ofS {b : Bool} {m : Nat} {x : Int} (h : m ≤ x.natAbs) (hx : Len0 x) : Len0 (ofS b m) := by
  unfold Len0 at *
  rw [lm_ofS]
  exact Nat.le_trans (len_mono' h) hx
theorem len_word {y : Int} (h0 : 0 < y) (h : y < 18446744073709551616) : Len0 y := by
  have := lm_one y (by omega)
  unfold Len0; omega
theorem len_1 : Len0 1 := len_word (by omega) (by omega)
section
set_option maxRecDepth 100000
set_option maxHeartbeats 1000000
def cDivide : Con Try.prog := con2 81 (fun x y => Len0 x ∧ 0 < y ∧ y < 18446744073709551616) (fun x y => .tv (tQR (x / y) (x % y))) ⟨_, Try.func81, by kernel_rfl, rfl⟩ (fun x y A A' c c' w hl hr hr' => by
  refine fn_ret (cxOk Try.prog ints_ok [] (cSub :: cOne :: cAdd :: lowK)) follows Try.func81 rfl 100 _ rfl (by simp) ?_ (args2 hr hr')
  repeat' first
    | exact trivial
    | (refine And.intro (show regChk _ _ _ _ _ = true from by kernel_rfl) (And.intro ?_ ?_))
    | (refine And.intro (fun hb => ?_) (fun hb' => ?_))
    | refine And.intro ?_ ?_
    | exact hl.1
    | exact hl.2.1
    | exact hl.2.2
    | exact rfl
    | exact Int.natAbs_pos.2 (by omega)
    | exact (show y.natAbs < 18446744073709551616 by omega)
    | exact len_ofS (dv1 hl.2.1 hb).2.2.1 hl.1
    | exact len_ofS (dv1 hl.2.1 hb).2.2.2 (len_word hl.2.1 hl.2.2)
    | exact len_word hl.2.1 hl.2.2
    | exact len_1
    | exact qr_eq (dv1 hl.2.1 hb).1 (dv1 hl.2.1 hb).2.1
    | exact qr_eq (dv2 hl.2.1 hb').1 (dv2 hl.2.1 hb').2
    | (intro hc; exact beq_iff_eq.2 hc)
    | exact beq_iff_eq.2 (by assumption)
    | intro _
    | assumption)
def cDown : Con Try.prog := con2 91 (fun x y => Len0 x ∧ 0 < y ∧ y < 18446744073709551616) (fun x y => .tv (tI (x / y))) ⟨_, Try.func91, by kernel_rfl, rfl⟩ (fun x y A A' c c' w hl hr hr' => by
  refine fn_ret (cxOk Try.prog ints_ok [] [cDivide]) follows Try.func91 rfl 100 _ rfl (by simp) ?_ (args2 hr hr')
  repeat' first
    | exact trivial
    | (refine And.intro (show regChk _ _ _ _ _ = true from by kernel_rfl) (And.intro ?_ ?_))
    | refine And.intro ?_ ?_
    | exact hl.1
    | exact hl.2.1
    | exact hl.2.2
    | exact rfl)
/-- To the nearest one, of two that are as near to the even one. -/
def roundP (x y : Int) : Int := if 2 * (x % y) > y ∨ (2 * (x % y) = y ∧ (x / y) % 2 = 1) then x / y + 1 else x / y
def roundI (x y : Int) : Int := if y < 0 then roundP (-x) (-y) else roundP x y
def roundB (x y : Int) : Bool := bif decide (cmpI (x % y * 2 ^ Int.toNat 1) y > 0) then true else bif (bif (cmpI (x % y * 2 ^ Int.toNat 1) y == 0) then decide (((lm (x / y)).length : Int) > 0) else false) then (rd (lm (x / y)) 0).tmod 2 == 1 else false
theorem low_odd {z : Int} (h : z ≠ 0) : ((rd (lm z) 0).tmod 2 == 1) = decide (z % 2 = 1) := by
  have e : lm z = ((z.natAbs % 18446744073709551616 : Nat) : Int) :: limbs (z.natAbs / 18446744073709551616) := limbs_pos (by omega)
  have e1 : rd (lm z) 0 = ((z.natAbs % 18446744073709551616 : Nat) : Int) := by rw [e]; rfl
  rw [e1, Int.tmod_eq_emod_of_nonneg (by omega), Bool.eq_iff_iff, beq_iff_eq, decide_eq_true_eq]
  omega
theorem roundB_eq {x y : Int} : roundB x y = decide (2 * (x % y) > y ∨ (2 * (x % y) = y ∧ (x / y) % 2 = 1)) := by
  have e : x % y * 2 ^ Int.toNat 1 = 2 * (x % y) := by show x % y * 2 ^ 1 = _; omega
  unfold roundB
  rw [e]
  generalize 2 * (x % y) = r
  unfold cmpI
  by_cases h1 : r < y
  · rw [if_pos h1]
    simp
    exact ⟨by omega, fun h => by omega⟩
  · rw [if_neg h1]
    by_cases h2 : y < r
    · rw [if_pos h2]; simp [h2]
    · rw [if_neg h2]
      have h3 : r = y := by omega
      rw [h3]
      by_cases hz : x / y = 0
      · have := lm_nil' (x := x / y)
        rw [hz] at this ⊢
        simp [lm_zero]
      · have := (lm_pos (x := x / y)).2 hz
        rw [this, low_odd hz]
        simp
theorem round_up {x y : Int} (h : roundB x y = true) : x / y + 1 = roundP x y := by
  rw [roundB_eq] at h
  unfold roundP
  rw [if_pos (of_decide_eq_true h)]
theorem round_dn {x y : Int} (h : roundB x y = false) : x / y = roundP x y := by
  rw [roundB_eq] at h
  unfold roundP
  rw [if_neg (of_decide_eq_false h)]
theorem round_n {x y : Int} (h : sgn y = true) : roundP (-x) (-y) = roundI x y := by unfold roundI; rw [if_pos (sgn_t h)]
theorem round_p {x y : Int} (h : sgn y = false) : roundP x y = roundI x y := by unfold roundI; rw [if_neg (by have := sgn_f h; omega)]
theorem g1 {a b c : Bool} (h : (a == false && (bif b then c else false) == true) = true) : c = true := by cases a <;> cases b <;> cases c <;> simp_all
theorem g2 {a b : Bool} (h : (a == false) = true) (h' : b = true) : (a == false && b == true) = true := by cases a <;> cases b <;> simp_all
theorem len_neg {x : Int} (h : Len0 x) : Len0 (-x) := by unfold Len0; rw [lm_neg']; exact h
theorem len_mod {x y : Int} (h0 : 0 < y) (h : y < 18446744073709551616) : Len0 (x % y) := by
  have h1 := Int.emod_nonneg x (show y ≠ 0 by omega)
  have h2 := Int.emod_lt_of_pos x h0
  have := lm_one (x % y) (by omega)
  unfold Len0; omega
theorem len_div {x y : Int} (h0 : 0 < y) (h : Len0 x) : Len0 (x / y) := by
  refine Nat.le_trans (lm_le ?_) h
  rcases Int.le_total 0 x with hx | hx
  · have h1 := Int.ediv_nonneg hx (Int.le_of_lt h0)
    have h2 := Int.ediv_le_self y hx
    omega
  · obtain ⟨Q, R, e1, e2, h⟩ := div_cases (x := x) h0
    have h3 : x.natAbs / y.natAbs ≤ x.natAbs := Nat.div_le_self _ _
    have h4 : x.natAbs % y.natAbs ≤ x.natAbs := Nat.mod_le _ _
    have h5 := Nat.div_add_mod x.natAbs y.natAbs
    rw [e1] at h3 h5
    rw [e2] at h4 h5
    have h6 : Q ≤ y.natAbs * Q := Nat.le_mul_of_pos_left _ (by omega)
    rcases h with h | h | h <;> omega
def cRound : Con Try.prog := con2 48 (fun x y => Len0 x ∧ y ≠ 0 ∧ y.natAbs < 18446744073709551616) (fun x y => .tv (tI (roundI x y))) ⟨_, Try.func48, by kernel_rfl, rfl⟩ (fun x y A A' c c' w hl hr hr' => by
  refine fn_ret (cxOk Try.prog ints_ok [] [cNeg, cDivide, cLeft, cCmp, cOne, cAdd]) follows Try.func48 rfl 100 _ rfl (by simp) ?_ (args2 hr hr')
  obtain ⟨hl1, hl2, hl3⟩ := hl
  have hy : Len0 y := by have := lm_one y hl3; unfold Len0; omega
  have cases2 : (sgn y = true → (0 : Int) < -y ∧ -y < 18446744073709551616) ∧ (sgn y = false → (0 : Int) < y ∧ y < 18446744073709551616) :=
    ⟨fun h => by have := sgn_t h; omega, fun h => by have := sgn_f h; omega⟩
  repeat' first
    | exact trivial
    | (refine And.intro (show regChk _ _ _ _ _ = true from by kernel_rfl) (And.intro ?_ ?_))
    | (refine And.intro (fun hb => ?_) (fun hb' => ?_))
    | refine And.intro ?_ ?_
    | (intro hc; exact beq_iff_eq.2 hc)
    | (show ¬ _; show (2 : Int) ≠ 0; decide)
    | intro _
  all_goals first
    | (show (_ : Int) = (_ : Int); rfl)
    | (show Len0 _; first | exact hl1 | exact hy | exact len_1 | exact len_neg hl1 | exact len_mod (cases2.1 (by assumption)).1 (cases2.1 (by assumption)).2 | exact len_mod (cases2.2 (by assumption)).1 (cases2.2 (by assumption)).2 | exact len_div (cases2.1 (by assumption)).1 (len_neg hl1) | exact len_div (cases2.2 (by assumption)).1 hl1)
    | (show (_ : Int) ≤ _; decide)
    | (show (_ : Int) < _; first | exact (cases2.1 (by assumption)).1 | exact (cases2.1 (by assumption)).2 | exact (cases2.2 (by assumption)).1 | exact (cases2.2 (by assumption)).2 | exact of_decide_eq_true (g1 (by assumption)))
    | (show some (CR.tv (tI _)) = some (CR.tv (tI _)); first | exact wh_eq ((round_up (x := -x) (y := -y) (by assumption)).trans (round_n (by assumption))) | exact wh_eq ((round_dn (x := -x) (y := -y) (by assumption)).trans (round_n (by assumption))) | exact wh_eq ((round_up (x := x) (y := y) (by assumption)).trans (round_p (by assumption))) | exact wh_eq ((round_dn (x := x) (y := y) (by assumption)).trans (round_p (by assumption))))
    | exact beq_iff_eq.2 (by assumption)
    | exact g2 (by assumption) (by assumption)
    | assumption)
end
end Go.Proofs.Ythokdnheijnmmaa.Wh
/- HWi4. -/
set_option linter.unusedVariables false
set_option linter.unusedSimpArgs false
namespace Go.Proofs.Ythokdnheijnmmaa.Wh
open Go Go.RowKit Go.Proofs.YthokdnheijnmmaaW.PrintWords Go.Proofs.YthokdnheijnmmaaW.PrintMore Go.Proofs.YthokdnheijnmmaaW.Aid Go.Proofs.YthokdnheijnmmaaW.Big Go.Proofs.YthokdnheijnmmaaW.Sx Go.Proofs.Ythokdnheijnmmaa.BitsWalk Go.Proofs.Ythokdnheijnmmaa.Limbs Go.Proofs.Ythokdnheijnmmaa.Whole Go.Proofs
/-- What Small tells. -/
def smallI (x : Int) : Int × Bool := if -9223372036854775808 ≤ x ∧ x ≤ 9223372036854775807 then (x, true) else (0, false)
abbrev tNB (z : Int) (b : Bool) : TV := .tup [(false, [.v (.int .i64 z)]), (false, [.v (.bool b)])]
theorem nb_eq {z z' : Int} {b b' : Bool} (h : (z, b) = (z', b')) : (some (CR.tv (tNB z b)) : Option CR) = some (CR.tv (tNB z' b')) := by cases h; rfl
theorem low_word {x : Int} (h0 : x ≠ 0) (h : ¬ ((lm x).length : Int) > 1) : rd (lm x) 0 = (x.natAbs : Int) := by
  have e : lm x = ((x.natAbs % 18446744073709551616 : Nat) : Int) :: limbs (x.natAbs / 18446744073709551616) := limbs_pos (by omega)
  have e1 : rd (lm x) 0 = ((x.natAbs % 18446744073709551616 : Nat) : Int) := by rw [e]; rfl
  have : (limbs (x.natAbs / 18446744073709551616)).length = 0 := by
    rw [e, List.length_cons] at h; omega
  have := limbs_ne.1 (List.length_eq_zero_iff.1 this)
  rw [e1]; omega
theorem low_many {x : Int} (h : ((lm x).length : Int) > 1) : 18446744073709551616 ≤ x.natAbs := by
  rcases Nat.lt_or_ge x.natAbs 18446744073709551616 with h1 | h1
  · have := lm_one x h1; omega
  · exact h1
theorem len_gt {x : Int} (h : (((lm x).length : Int) == 0) = false) : (0 : Int) < ((lm x).length : Int) := by
  have := beq_eq_false_iff_ne.1 h
  omega
theorem small_yes {x : Int} (h : -9223372036854775808 ≤ x ∧ x ≤ 9223372036854775807) : smallI x = (x, true) := if_pos h
theorem small_no {x : Int} (h : ¬ (-9223372036854775808 ≤ x ∧ x ≤ 9223372036854775807)) : smallI x = (0, false) := if_neg h
theorem small0 {x : Int} (h : (((lm x).length : Int) == 0) = true) : ((0 : Int), true) = ((smallI x).1, (smallI x).2) := by
  have h1 := lm_nil'.1 (show (lm x).length = 0 by have := beq_iff_eq.1 h; omega)
  rw [small_yes (by omega), h1]
theorem small1 {x : Int} (h : decide (((lm x).length : Int) > 1) = true) : ((0 : Int), false) = ((smallI x).1, (smallI x).2) := by
  have h1 := low_many (of_decide_eq_true h)
  rw [small_no (by omega)]
theorem nz_of {x : Int} (h : (((lm x).length : Int) == 0) = false) : x ≠ 0 := fun e => by
  have h1 := lm_nil'.2 e
  have := beq_eq_false_iff_ne.1 h
  omega
theorem i64_wrap (x : Int) : IntKind.i64.wrap x = wrap64 x := by unfold wrap64; exact IntKind.wrap_i64 x
theorem small2 {x : Int} (h0 : (((lm x).length : Int) == 0) = false) (h1 : decide (((lm x).length : Int) > 1) = false) (h : (bif sgn x then decide (rd (lm x) 0 ≤ 9223372036854775808) else false) = true) : (IntKind.i64.wrap (IntKind.u64.wrap (0 - rd (lm x) 0)), true) = ((smallI x).1, (smallI x).2) := by
  have e := low_word (nz_of h0) (of_decide_eq_false h1)
  have hs := sgn_t (and1 h)
  have hr := of_decide_eq_true (and2 h)
  rw [e] at hr ⊢
  have e2 : wrap64 ((0 - (x.natAbs : Int)) % 18446744073709551616) = x := by unfold wrap64; omega
  rw [small_yes (by omega), u64_wrap, i64_wrap, e2]
theorem small3 {x : Int} (h0 : (((lm x).length : Int) == 0) = false) (h1 : decide (((lm x).length : Int) > 1) = false) (h : (bif !sgn x then decide (rd (lm x) 0 < 9223372036854775808) else false) = true) : (IntKind.i64.wrap (rd (lm x) 0), true) = ((smallI x).1, (smallI x).2) := by
  have e := low_word (nz_of h0) (of_decide_eq_false h1)
  have hs := sgn_f (show sgn x = false by have := and1 h; simpa using this)
  have hr := of_decide_eq_true (and2 h)
  rw [e] at hr ⊢
  have e2 : wrap64 (x.natAbs : Int) = x := by unfold wrap64; omega
  rw [small_yes (by omega), i64_wrap, e2]
theorem small4 {x : Int} (h0 : (((lm x).length : Int) == 0) = false) (h1 : decide (((lm x).length : Int) > 1) = false) (h : (bif sgn x then decide (rd (lm x) 0 ≤ 9223372036854775808) else false) = false) (h' : (bif !sgn x then decide (rd (lm x) 0 < 9223372036854775808) else false) = false) : ((0 : Int), false) = ((smallI x).1, (smallI x).2) := by
  have e := low_word (nz_of h0) (of_decide_eq_false h1)
  rw [e] at h h'
  rw [small_no]
  intro hc
  cases hs : sgn x with
  | true =>
    have h2 := sgn_t hs
    have := of_decide_eq_false (and3 h hs)
    omega
  | false =>
    have h2 := sgn_f hs
    rw [hs] at h'
    have := of_decide_eq_false (and3 h' rfl)
    omega
theorem even_eq (x : Int) : (bif (((lm x).length : Int) == 0) then true else (rd (lm x) 0).tmod 2 == 0) = decide (x % 2 = 0) := by
  by_cases h : x = 0
  · have := lm_nil'.2 h
    rw [this, h]; rfl
  · have h1 : (((lm x).length : Int) == 0) = false := beq_eq_false_iff_ne.2 (by have := lm_nil' (x := x); omega)
    have e : lm x = ((x.natAbs % 18446744073709551616 : Nat) : Int) :: limbs (x.natAbs / 18446744073709551616) := limbs_pos (by omega)
    have e1 : rd (lm x) 0 = ((x.natAbs % 18446744073709551616 : Nat) : Int) := by rw [e]; rfl
    rw [h1, e1, Int.tmod_eq_emod_of_nonneg (by omega)]
    rw [cond_false, Bool.eq_iff_iff, beq_iff_eq, decide_eq_true_eq]
    omega
theorem ofS_div {x : Int} (h : 0 ≤ x) (k : Nat) : ofS false (x.natAbs / 2 ^ k) = x / 2 ^ k := by
  obtain ⟨m, rfl⟩ : ∃ m : Nat, x = (m : Int) := ⟨x.natAbs, by omega⟩
  rw [Int.natAbs_natCast]
  unfold ofS
  simp
section
set_option maxRecDepth 100000
set_option maxHeartbeats 1000000
def cSmall : Con Try.prog := con1 79 (fun x => True) (fun x => .tv (tNB (smallI x).1 (smallI x).2)) ⟨_, Try.func79, by kernel_rfl, rfl⟩ (fun x A c w hl hr => by
  refine fn_ret (cxOk Try.prog ints_ok [] []) follows Try.func79 rfl 100 _ rfl (by simp) ?_ (args1 hr)
  repeat' first
    | exact trivial
    | (refine And.intro (show regChk _ _ _ _ _ = true from by kernel_rfl) (And.intro ?_ ?_))
    | (refine And.intro (fun hb => ?_) (fun hb' => ?_))
    | refine And.intro ?_ ?_
    | (intro hc; exact beq_iff_eq.2 hc)
    | (show ¬ _; show (2 : Int) ≠ 0; decide)
    | intro _
  all_goals first
    | (show some (CR.tv (tNB _ _)) = some (CR.tv (tNB _ _)); first | exact nb_eq (small0 (by assumption)) | exact nb_eq (small1 (by assumption)) | exact nb_eq (small2 (by assumption) (by assumption) (by assumption)) | exact nb_eq (small3 (by assumption) (by assumption) (by assumption)) | exact nb_eq (small4 (by assumption) (by assumption) (by assumption) (by assumption)))
    | (show (_ : Int) ≤ _; decide)
    | (show (_ : Int) < _; exact len_gt (by assumption))
    | assumption
    | exact beq_iff_eq.2 (by assumption))
def cEven : Con Try.prog := con1 99 (fun x => True) (fun x => .tv (tB (decide (x % 2 = 0)))) ⟨_, Try.func99, by kernel_rfl, rfl⟩ (fun x A c w hl hr => by
  refine fn_ret (cxOk Try.prog ints_ok [] []) follows Try.func99 rfl 100 _ rfl (by simp) ?_ (args1 hr)
  repeat' first
    | exact trivial
    | (refine And.intro (show regChk _ _ _ _ _ = true from by kernel_rfl) (And.intro ?_ ?_))
    | (refine And.intro (fun hb => ?_) (fun hb' => ?_))
    | refine And.intro ?_ ?_
    | (intro hc; exact beq_iff_eq.2 hc)
    | (show ¬ _; show (2 : Int) ≠ 0; decide)
    | intro _
  all_goals first
    | (show some (CR.tv (tB _)) = some (CR.tv (tB _)); exact tB_eq (even_eq x))
    | (show (_ : Int) ≤ _; decide)
    | (show (_ : Int) < _; exact len_gt (beq_iff_eq.1 (by assumption)))
    | (show ¬ _; show (2 : Int) ≠ 0; decide)
    | assumption
    | exact beq_iff_eq.2 (by assumption))
def cRight : Con Try.prog := con1n 90 (fun x n => Len0 x ∧ 0 ≤ x ∧ 0 ≤ n ∧ n ≤ 6400) (fun x n => .tv (tI (x / 2 ^ n.toNat))) ⟨_, Try.func90, by kernel_rfl, rfl⟩ (fun x n A c w hl hr => by
  refine fn_ret (cxOk Try.prog ints_ok [] lowK) follows Try.func90 rfl 100 _ rfl (by simp) ?_ (args1n hr)
  have hs : sgn x = false := by unfold sgn; simp; omega
  repeat' first
    | exact trivial
    | (refine And.intro (show regChk _ _ _ _ _ = true from by kernel_rfl) (And.intro ?_ ?_))
    | (refine And.intro (fun hb => ?_) (fun hb' => ?_))
    | refine And.intro ?_ ?_
    | (intro hc; exact beq_iff_eq.2 hc)
    | (show ¬ _; show (2 : Int) ≠ 0; decide)
    | intro _
  all_goals first
    | (show some (CR.tv (tI _)) = some (CR.tv (tI _)); exact wh_eq (by rw [hs, Int.natAbs_natCast]; exact ofS_div hl.2.1 _))
    | exact hl.1
    | exact hl.2.2.1
    | exact hl.2.2.2
    | exact absurd (show (sgn x == true) = true by assumption) (by rw [hs]; decide)
    | exact absurd (show sgn x = true by assumption) (by rw [hs]; decide)
    | exact absurd (and1 (show (bif sgn x then _ else false) = true by assumption)) (by rw [hs]; decide))
end
end Go.Proofs.Ythokdnheijnmmaa.Wh
