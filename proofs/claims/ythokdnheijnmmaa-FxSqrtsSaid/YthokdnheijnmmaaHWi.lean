/- HWi: HWh, HWi, HWi2 in one text. -/
import Derived.Test.YthokdnheijnmmaaHInt
import Derived.Test.YthokdnheijnmmaaHShift
import Derived.Test.YthokdnheijnmmaaHSub
import Derived.Test.YthokdnheijnmmaaHDiv64
import Derived.Test.YthokdnheijnmmaaHSx
import Derived.Lib.ItoaNum
/- HWh. -/
set_option linter.unusedVariables false
set_option linter.unusedSimpArgs false
namespace Go.Proofs.Ythokdnheijnmmaa.Wh
open Go Go.RowKit Go.Proofs.YthokdnheijnmmaaW.PrintWords Go.Proofs.YthokdnheijnmmaaW.PrintMore Go.Proofs.YthokdnheijnmmaaW.Aid Go.Proofs.YthokdnheijnmmaaW.Big Go.Proofs.YthokdnheijnmmaaW.Sx Go.Proofs.Ythokdnheijnmmaa.BitsWalk Go.Proofs.Ythokdnheijnmmaa.Limbs Go.Proofs.Ythokdnheijnmmaa.Whole Go.Proofs
theorem follows : Try.prog.follows .mixedOrders = true := by kernel_rfl
abbrev ints : List TypeId := [58]
theorem ints_ok : intsOk Try.prog ints := by unfold intsOk; kernel_rfl
theorem lm_nat (m : Nat) : lm (m : Int) = limbs m := by unfold lm; rw [Int.natAbs_natCast]
abbrev tM (m : Nat) : TV := .sc (.mag (m : Int))
theorem Ret.mag {f : FuncId} {us : Array Value} {w : World} {m : Nat} (h : Calls Try.prog f us w (RetRd (limbs m) w)) : Ret Try.prog f us w (.tv (tM m)) :=
  h.mono fun _ _ ⟨A, c, he, hr, hb⟩ => ⟨_, he, ⟨A, c, by rw [lm_nat], by rw [lm_nat]; exact hr⟩, hb⟩
/-- Two magnitudes. -/
def conMM (f : FuncId) (pre : Nat → Nat → Prop) (r : Nat → Nat → CR) (hf : FOk Try.prog f) (ok : ∀ a b A A' c c' w, pre a b → Rd w (limbs a) A c → Rd w (limbs b) A' c' → Ret Try.prog f #[.slice A (limbs a).length c, .slice A' (limbs b).length c'] w (r a b)) : Con Try.prog where
  f := f
  sem := fun xs => match xs with
    | [.sc (.mag x), .sc (.mag y)] => some (pre x.natAbs y.natAbs, r x.natAbs y.natAbs)
    | _ => none
  ok := by
    intro xs p r' h hp
    refine ⟨hf, fun us w ha => ?_⟩
    split at h
    · rename_i x y
      cases h
      obtain ⟨u, v, rfl, h1, h2⟩ := all2_2 ha
      obtain ⟨A, c, rfl, hr⟩ := reads_mag h1
      obtain ⟨A', c', rfl, hr'⟩ := reads_mag h2
      exact ok _ _ A A' c c' w hp hr hr'
    · cases h
def conM (f : FuncId) (pre : Nat → Prop) (r : Nat → CR) (hf : FOk Try.prog f) (ok : ∀ a A c w, pre a → Rd w (limbs a) A c → Ret Try.prog f #[.slice A (limbs a).length c] w (r a)) : Con Try.prog where
  f := f
  sem := fun xs => match xs with
    | [.sc (.mag x)] => some (pre x.natAbs, r x.natAbs)
    | _ => none
  ok := by
    intro xs p r' h hp
    refine ⟨hf, fun us w ha => ?_⟩
    split at h
    · rename_i x
      cases h
      obtain ⟨u, rfl, h1⟩ := all2_1 ha
      obtain ⟨A, c, rfl, hr⟩ := reads_mag h1
      exact ok _ A c w hp hr
    · cases h
def conMn (f : FuncId) (pre : Nat → Int → Prop) (r : Nat → Int → CR) (hf : FOk Try.prog f) (ok : ∀ a n A c w, pre a n → Rd w (limbs a) A c → Ret Try.prog f #[.slice A (limbs a).length c, .int .i64 n] w (r a n)) : Con Try.prog where
  f := f
  sem := fun xs => match xs with
    | [.sc (.mag x), .sc (.v (.int .i64 n))] => some (pre x.natAbs n, r x.natAbs n)
    | _ => none
  ok := by
    intro xs p r' h hp
    refine ⟨hf, fun us w ha => ?_⟩
    split at h
    · rename_i x n
      cases h
      obtain ⟨u, v, rfl, h1, h2⟩ := all2_2 ha
      obtain ⟨A, c, rfl, hr⟩ := reads_mag h1
      rw [show _ = _ from h2]
      exact ok _ n A c w hp hr
    · cases h
def conOf (f : FuncId) (r : Bool → Nat → CR) (hf : FOk Try.prog f) (ok : ∀ b m A c w, Rd w (limbs m) A c → Ret Try.prog f #[.bool b, .slice A (limbs m).length c] w (r b m)) : Con Try.prog where
  f := f
  sem := fun xs => match xs with
    | [.sc cb, .sc (.mag x)] => match cb.val? with
      | some (.bool b) => some (True, r b x.natAbs)
      | _ => none
    | _ => none
  ok := by
    intro xs p r' h hp
    refine ⟨hf, fun us w ha => ?_⟩
    split at h
    · rename_i cb x
      split at h
      · rename_i b hb
        cases h
        obtain ⟨u, v, rfl, h1, h2⟩ := all2_2 ha
        obtain ⟨A, c, rfl, hr⟩ := reads_mag h2
        rw [val_reads (c := .sc cb) hb h1]
        exact ok b _ A c w hr
      · cases h
    · cases h
theorem bel_drewN (w : World) (n : Nat) : Below w.heap.size w (w.drewN n) := pw_below_drewN (Below.refl _ _) n
theorem len_mono' {m n : Nat} (h : m ≤ n) : (limbs m).length ≤ (limbs n).length := by
  rcases Nat.lt_or_ge (limbs n).length (limbs m).length with hh | hh
  · have := cmp_len hh; omega
  · exact hh
abbrev Len1 (a : Nat) : Prop := (limbs a).length ≤ 1000
def cCmpN : Con Try.prog := conMM 110 (fun _ _ => True) (fun a b => .tv (tN .i64 (cmpR a b))) ⟨_, Try.func110, by kernel_rfl, rfl⟩
  (fun a b A A' c c' w _ hr hr' => Ret.val ((cmp_calls a b A A' c c' w hr hr').mono fun _ _ ⟨he, n, hw⟩ => ⟨he, by rw [hw]; exact bel_drewN w n⟩))
def cAddN : Con Try.prog := conMM 111 (fun a b => Len1 a ∧ Len1 b) (fun a b => .tv (tM (a + b))) ⟨_, Try.func111, by kernel_rfl, rfl⟩
  (fun a b A A' c c' w h hr hr' => Ret.mag (by have := add_calls _ _ A A' c c' w (limbs_dig a) (limbs_dig b) hr hr' h.1 h.2; rwa [val_limbs, val_limbs] at this))
def cSubN : Con Try.prog := conMM 112 (fun a b => Len1 a ∧ b ≤ a) (fun a b => .tv (tM (a - b))) ⟨_, Try.func112, by kernel_rfl, rfl⟩
  (fun a b A A' c c' w h hr hr' => Ret.mag (by have := sub_calls _ _ A A' c c' w (limbs_dig a) (limbs_dig b) hr hr' h.1 (len_mono' h.2) (by rw [val_limbs, val_limbs]; exact h.2); rwa [val_limbs, val_limbs] at this))
def cMulN : Con Try.prog := conMM 120 (fun a b => Len1 a ∧ (limbs b).length < 24) (fun a b => .tv (tM (a * b))) ⟨_, Try.func120, by kernel_rfl, rfl⟩
  (fun a b A A' c c' w h hr hr' => Ret.mag (by have := mul_calls _ _ A A' c c' w (limbs_dig a) (limbs_dig b) hr hr' h.1 h.2; rwa [val_limbs, val_limbs] at this))
def cLeftN : Con Try.prog := conMn 100 (fun a n => Len1 a ∧ 0 ≤ n ∧ n ≤ 6400) (fun a n => .tv (tM (a * 2 ^ n.toNat))) ⟨_, Try.func100, by kernel_rfl, rfl⟩
  (fun a n A c w h hr => Ret.mag (by have := left_calls _ n.toNat A c w (limbs_dig a) hr h.1 (by omega); rwa [val_limbs, Int.toNat_of_nonneg h.2.1] at this))
def cRightN : Con Try.prog := conMn 116 (fun a n => Len1 a ∧ 0 ≤ n ∧ n ≤ 6400) (fun a n => .tv (tM (a / 2 ^ n.toNat))) ⟨_, Try.func116, by kernel_rfl, rfl⟩
  (fun a n A c w h hr => Ret.mag (by have := right_calls _ n.toNat A c w (limbs_dig a) hr h.1 (by omega); rwa [val_limbs, Int.toNat_of_nonneg h.2.1] at this))
def cCloneN : Con Try.prog := conM 107 Len1 (fun a => .tv (tM a)) ⟨_, Try.func107, by kernel_rfl, rfl⟩
  (fun a A c w h hr => Ret.mag ((clone_calls _ A c w hr (by omega)).mono fun _ _ h => CloneRet.rd h))
def cDivN : Con Try.prog := conMM 108 (fun a b => Len1 a ∧ 0 < b ∧ b < 18446744073709551616) (fun a b => .tv (.tup [(false, [.mag ((a / b : Nat) : Int)]), (false, [.mag ((a % b : Nat) : Int)])])) ⟨_, Try.func108, by kernel_rfl, rfl⟩
  (fun a b A A' c c' w h hr hr' => (div_calls_word a b A A' c c' w hr hr' h.1 h.2.1 h.2.2).mono fun _ _ ⟨A, c, A', c', he, hr, hr', hb⟩ => ⟨_, he, ⟨[_, _], rfl, .cons ⟨_, rfl, A, c, by rw [lm_nat], by rw [lm_nat]; exact hr⟩ (.cons ⟨_, rfl, A', c', by rw [lm_nat], by rw [lm_nat]; exact hr'⟩ .nil)⟩, hb⟩)
def cOf : Con Try.prog := conOf 84 (fun b m => .tv (tI (ofS b m))) ⟨_, Try.func84, by kernel_rfl, rfl⟩
  (fun b m A c w hr => (Of_calls b m A c w).mono fun _ w' ⟨he, hb⟩ => ⟨_, he, told_int (β := fun _ => 0) (b := 0) (by rw [lm_ofS]; exact hr.below hb), hb⟩)
def cFrom : Con Try.prog := conN 49 (fun n => -9223372036854775808 ≤ n ∧ n < 9223372036854775808) (fun n => .tv (tI n)) ⟨_, Try.func49, by kernel_rfl, rfl⟩
  (fun n w h => Ret.int (From_calls n w h.1 h.2))
abbrev lowK : List (Con Try.prog) := [cCmpN, cAddN, cSubN, cMulN, cLeftN, cRightN, cCloneN, cDivN, cOf, cFrom]
end Go.Proofs.Ythokdnheijnmmaa.Wh
/- HWi. -/
set_option linter.unusedVariables false
set_option linter.unusedSimpArgs false
namespace Go.Proofs.Ythokdnheijnmmaa.Wh
open Go Go.RowKit Go.Proofs.YthokdnheijnmmaaW.PrintWords Go.Proofs.YthokdnheijnmmaaW.PrintMore Go.Proofs.YthokdnheijnmmaaW.Aid Go.Proofs.YthokdnheijnmmaaW.Big Go.Proofs.YthokdnheijnmmaaW.Sx Go.Proofs.Ythokdnheijnmmaa.BitsWalk Go.Proofs.Ythokdnheijnmmaa.Limbs Go.Proofs.Ythokdnheijnmmaa.Whole Go.Proofs
theorem wh_eq {z z' : Int} (h : z = z') : (some (CR.tv (tI z)) : Option CR) = some (CR.tv (tI z')) := by rw [h]
theorem args1 {w : World} {x : Int} {A : Option Addr} {c : Nat} (hr : Rd w (lm x) A c) : All2 (TV.reads (fun _ => 0) w.heap.size w) [tI x] [ivl x A c] := .cons (told_int hr) .nil
theorem args2 {w : World} {x y : Int} {A A' : Option Addr} {c c' : Nat} (hr : Rd w (lm x) A c) (hr' : Rd w (lm y) A' c') : All2 (TV.reads (fun _ => 0) w.heap.size w) [tI x, tI y] [ivl x A c, ivl y A' c'] := .cons (told_int hr) (.cons (told_int hr') .nil)
theorem args1n {w : World} {x n : Int} {A : Option Addr} {c : Nat} (hr : Rd w (lm x) A c) : All2 (TV.reads (fun _ => 0) w.heap.size w) [tI x, tN .i64 n] [ivl x A c, .int .i64 n] := .cons (told_int hr) (.cons rfl .nil)
abbrev Len0 (x : Int) : Prop := (lm x).length ≤ 1000
theorem ofS_neg' (x : Int) : ofS (!(sgn x)) x.natAbs = -x := by
  unfold ofS sgn
  by_cases h : x < 0
  · simp [h]; omega
  · simp [h]; omega
theorem ofS_mul' (x : Int) (k : Nat) : ofS (sgn x) (x.natAbs * k) = x * k := by
  unfold ofS sgn
  by_cases h : x < 0
  · have e : x = -((x.natAbs : Nat) : Int) := by omega
    simp only [h, decide_true, if_true, Int.natCast_mul]
    conv => rhs; rw [e]
    rw [Int.neg_mul]
  · have e : x = ((x.natAbs : Nat) : Int) := by omega
    simp only [h, decide_false, Bool.false_eq_true, if_false, Int.natCast_mul]
    conv => rhs; rw [e]
theorem ofS_prod' (x y : Int) : ofS (!(sgn x == sgn y)) (x.natAbs * y.natAbs) = x * y := by
  unfold ofS sgn
  by_cases h : x < 0 <;> by_cases h' : y < 0
  · simp only [h, h', decide_true, beq_self_eq_true, Bool.not_true, Bool.false_eq_true, if_false, Int.natCast_mul]
    rw [show ((x.natAbs : Nat) : Int) = -x by omega, show ((y.natAbs : Nat) : Int) = -y by omega, Int.neg_mul_neg]
  · simp only [h, h', decide_true, decide_false, show (true == false) = false from rfl, Bool.not_false, if_true, Int.natCast_mul]
    rw [show ((x.natAbs : Nat) : Int) = -x by omega, show ((y.natAbs : Nat) : Int) = y by omega, Int.neg_mul, Int.neg_neg]
  · simp only [h, h', decide_true, decide_false, show (false == true) = false from rfl, Bool.not_false, if_true, Int.natCast_mul]
    rw [show ((x.natAbs : Nat) : Int) = x by omega, show ((y.natAbs : Nat) : Int) = -y by omega, Int.mul_neg, Int.neg_neg]
  · simp only [h, h', decide_false, beq_self_eq_true, Bool.not_true, Bool.false_eq_true, if_false, Int.natCast_mul]
    rw [show ((x.natAbs : Nat) : Int) = x by omega, show ((y.natAbs : Nat) : Int) = y by omega]
theorem ofS_add' {x y : Int} (h : (sgn x == sgn y) = true) : ofS (sgn x) (x.natAbs + y.natAbs) = x + y := by
  unfold ofS sgn at *
  by_cases hx : x < 0 <;> by_cases hy : y < 0 <;> simp [hx, hy] at h ⊢ <;> omega
theorem ofS_sub' {x y : Int} (h : (sgn x == sgn y) = false) (hl : y.natAbs ≤ x.natAbs) : ofS (sgn x) (x.natAbs - y.natAbs) = x + y := by
  unfold ofS sgn at *
  by_cases hx : x < 0 <;> by_cases hy : y < 0 <;> simp [hx, hy] at h ⊢ <;> omega
section
set_option maxRecDepth 100000
set_option maxHeartbeats 1000000
def cNeg : Con Try.prog := con1 80 Len0 (fun x => .tv (tI (-x))) ⟨_, Try.func80, by kernel_rfl, rfl⟩ (fun x A c w hl hr => by
  refine fn_ret (cxOk Try.prog ints_ok [] lowK) follows Try.func80 rfl 100 _ rfl (by simp) ?_ (args1 hr)
  repeat' first
    | exact trivial
    | (refine And.intro (show regChk _ _ _ _ _ = true from by kernel_rfl) (And.intro ?_ ?_))
    | refine And.intro ?_ ?_
    | exact hl
    | exact wh_eq (ofS_neg' x))
def cOne : Con Try.prog := con0 62 (.tv (tI 1)) ⟨_, Try.func62, by kernel_rfl, rfl⟩ (fun w => by
  refine fn_ret (cxOk Try.prog ints_ok [] lowK) follows Try.func62 rfl 100 _ rfl (by simp) ?_ .nil
  repeat' first
    | exact trivial
    | (refine And.intro (show regChk _ _ _ _ _ = true from by kernel_rfl) (And.intro ?_ ?_))
    | refine And.intro ?_ ?_
    | exact rfl
    | decide)
def cLeft : Con Try.prog := con1n 61 (fun x n => Len0 x ∧ 0 ≤ n ∧ n ≤ 6400) (fun x n => .tv (tI (x * 2 ^ n.toNat))) ⟨_, Try.func61, by kernel_rfl, rfl⟩ (fun x n A c w hl hr => by
  refine fn_ret (cxOk Try.prog ints_ok [] lowK) follows Try.func61 rfl 100 _ rfl (by simp) ?_ (args1n hr)
  have e := ofS_mul' x (2 ^ n.toNat)
  rw [Int.natCast_pow] at e
  repeat' first
    | exact trivial
    | (refine And.intro (show regChk _ _ _ _ _ = true from by kernel_rfl) (And.intro ?_ ?_))
    | refine And.intro ?_ ?_
    | exact hl.1
    | exact hl.2.1
    | exact hl.2.2
    | exact wh_eq e)
def cMul : Con Try.prog := con2 98 (fun x y => Len0 x ∧ (lm y).length < 24) (fun x y => .tv (tI (x * y))) ⟨_, Try.func98, by kernel_rfl, rfl⟩ (fun x y A A' c c' w hl hr hr' => by
  refine fn_ret (cxOk Try.prog ints_ok [] lowK) follows Try.func98 rfl 100 _ rfl (by simp) ?_ (args2 hr hr')
  repeat' first
    | exact trivial
    | (refine And.intro (show regChk _ _ _ _ _ = true from by kernel_rfl) (And.intro ?_ ?_))
    | refine And.intro ?_ ?_
    | exact hl.1
    | exact hl.2
    | exact wh_eq (ofS_prod' x y))
end
end Go.Proofs.Ythokdnheijnmmaa.Wh
/- HWi2. -/
set_option linter.unusedVariables false
set_option linter.unusedSimpArgs false
namespace Go.Proofs.Ythokdnheijnmmaa.Wh
open Go Go.RowKit Go.Proofs.YthokdnheijnmmaaW.PrintWords Go.Proofs.YthokdnheijnmmaaW.PrintMore Go.Proofs.YthokdnheijnmmaaW.Aid Go.Proofs.YthokdnheijnmmaaW.Big Go.Proofs.YthokdnheijnmmaaW.Sx Go.Proofs.Ythokdnheijnmmaa.BitsWalk Go.Proofs.Ythokdnheijnmmaa.Limbs Go.Proofs.Ythokdnheijnmmaa.Whole Go.Proofs
/-- -1, 0, 1. -/
def cmpI (x y : Int) : Int := if x < y then -1 else if y < x then 1 else 0
theorem lm_neg' (x : Int) : lm (-x) = lm x := by unfold lm; rw [Int.natAbs_neg]
theorem sgn_t {x : Int} (h : sgn x = true) : x < 0 := by unfold sgn at h; simpa using h
theorem sgn_f {x : Int} (h : sgn x = false) : 0 ≤ x := by unfold sgn at h; simp at h; exact h
theorem lm_nil' {x : Int} : (lm x).length = 0 ↔ x = 0 := by
  unfold lm
  rw [List.length_eq_zero_iff, limbs_ne]
  omega
theorem cmp_lt {x y : Int} (h : decide (cmpR x.natAbs y.natAbs < 0) = true) : x.natAbs ≤ y.natAbs := by
  have h := of_decide_eq_true h
  unfold cmpR at h
  split at h
  · omega
  · split at h <;> omega
theorem cmp_ge {x y : Int} (h : decide (cmpR x.natAbs y.natAbs < 0) = false) : y.natAbs ≤ x.natAbs := by
  have h := of_decide_eq_false h
  unfold cmpR at h
  split at h
  · omega
  · omega
theorem tN_eq {k : IntKind} {z z' : Int} (h : z = z') : (some (CR.tv (tN k z)) : Option CR) = some (CR.tv (tN k z')) := by rw [h]
theorem tB_eq {z z' : Bool} (h : z = z') : (some (CR.tv (tB z)) : Option CR) = some (CR.tv (tB z')) := by rw [h]
theorem cmpI_pp {x y : Int} (hx : 0 ≤ x) (hy : 0 ≤ y) : cmpR x.natAbs y.natAbs = cmpI x y := by
  unfold cmpR cmpI
  by_cases h1 : x < y
  · rw [if_pos h1, if_pos (by omega)]
  · rw [if_neg h1, if_neg (by omega)]
    by_cases h2 : y < x
    · rw [if_pos h2, if_pos (by omega)]
    · rw [if_neg h2, if_neg (by omega)]
theorem cmpI_nn {x y : Int} (hx : x < 0) (hy : y < 0) : cmpR y.natAbs x.natAbs = cmpI x y := by
  unfold cmpR cmpI
  by_cases h1 : x < y
  · rw [if_pos h1, if_pos (by omega)]
  · rw [if_neg h1, if_neg (by omega)]
    by_cases h2 : y < x
    · rw [if_pos h2, if_pos (by omega)]
    · rw [if_neg h2, if_neg (by omega)]
theorem and1 {a b : Bool} (h : (bif a then b else false) = true) : a = true := by cases a <;> simp_all
theorem and2 {a b : Bool} (h : (bif a then b else false) = true) : b = true := by cases a <;> simp_all
theorem and3 {a b : Bool} (h : (bif a then b else false) = false) (ha : a = true) : b = false := by cases a <;> simp_all
theorem cmpI_np {x y : Int} (hx : x < 0) (hy : 0 ≤ y) : -1 = cmpI x y := by unfold cmpI; rw [if_pos (by omega)]
theorem cmpI_pn {x y : Int} (hx : 0 ≤ x) (hy : y < 0) : 1 = cmpI x y := by unfold cmpI; rw [if_neg (by omega), if_pos (by omega)]
section
set_option maxRecDepth 100000
set_option maxHeartbeats 1000000
def cPower : Con Try.prog := conN 88 (fun n => 0 ≤ n ∧ n ≤ 6400) (fun n => .tv (tI (2 ^ n.toNat))) ⟨_, Try.func88, by kernel_rfl, rfl⟩ (fun n w hl => by
  refine fn_ret (cxOk Try.prog ints_ok [] [cOne, cLeft]) follows Try.func88 rfl 100 _ rfl (by simp) ?_ (xs := [tN .i64 n]) (.cons rfl .nil)
  have e : Len0 1 := by rw [Len0, show lm 1 = [1] from limbs_word (n := 1) (by omega) (by omega)]; simp
  repeat' first
    | exact trivial
    | (refine And.intro (show regChk _ _ _ _ _ = true from by kernel_rfl) (And.intro ?_ ?_))
    | refine And.intro ?_ ?_
    | exact e
    | exact hl.1
    | exact hl.2
    | exact wh_eq (Int.one_mul _)
    | exact rfl)
def cAdd : Con Try.prog := con2 83 (fun x y => Len0 x ∧ Len0 y) (fun x y => .tv (tI (x + y))) ⟨_, Try.func83, by kernel_rfl, rfl⟩ (fun x y A A' c c' w hl hr hr' => by
  refine fn_ret (cxOk Try.prog ints_ok [] lowK) follows Try.func83 rfl 100 _ rfl (by simp) ?_ (args2 hr hr')
  repeat' first
    | exact trivial
    | (refine And.intro (show regChk _ _ _ _ _ = true from by kernel_rfl) (And.intro ?_ ?_))
    | (refine And.intro (fun hb => ?_) (fun hb' => ?_))
    | refine And.intro ?_ ?_
    | exact hl.1
    | exact hl.2
    | exact cmp_lt (by assumption)
    | exact cmp_ge (by assumption)
    | exact wh_eq (ofS_add' (by assumption))
    | exact wh_eq (ofS_sub' (by assumption) (cmp_ge (by assumption)))
    | exact wh_eq ((ofS_sub' (x := y) (y := x) (by rw [show (sgn y == sgn x) = (sgn x == sgn y) from Bool.beq_comm]; assumption) (cmp_lt (by assumption))).trans (Int.add_comm _ _)))
def cSub : Con Try.prog := con2 109 (fun x y => Len0 x ∧ Len0 y) (fun x y => .tv (tI (x - y))) ⟨_, Try.func109, by kernel_rfl, rfl⟩ (fun x y A A' c c' w hl hr hr' => by
  refine fn_ret (cxOk Try.prog ints_ok [] [cAdd, cOf]) follows Try.func109 rfl 100 _ rfl (by simp) ?_ (args2 hr hr')
  have e := ofS_neg' y
  have e2 : Len0 (ofS (!(sgn y)) y.natAbs) := by rw [e, Len0, lm_neg']; exact hl.2
  repeat' first
    | exact trivial
    | (refine And.intro (show regChk _ _ _ _ _ = true from by kernel_rfl) (And.intro ?_ ?_))
    | refine And.intro ?_ ?_
    | exact hl.1
    | exact e2
    | exact wh_eq (by rw [e]; omega)
    | exact rfl)
def cCmp : Con Try.prog := con2 82 (fun x y => True) (fun x y => .tv (tN .i64 (cmpI x y))) ⟨_, Try.func82, by kernel_rfl, rfl⟩ (fun x y A A' c c' w hl hr hr' => by
  refine fn_ret (cxOk Try.prog ints_ok [] lowK) follows Try.func82 rfl 100 _ rfl (by simp) ?_ (args2 hr hr')
  repeat' first
    | exact trivial
    | (refine And.intro (show regChk _ _ _ _ _ = true from by kernel_rfl) (And.intro ?_ ?_))
    | (refine And.intro (fun hb => ?_) (fun hb' => ?_))
    | refine And.intro ?_ ?_
    | (intro hc; exact beq_iff_eq.2 hc)
    | exact beq_iff_eq.2 (by assumption)
    | intro _
    | assumption
    | exact tN_eq (cmpI_nn (sgn_t (and1 (by assumption))) (sgn_t (and2 (by assumption))))
    | exact tN_eq (cmpI_np (sgn_t (by assumption)) (sgn_f (and3 (by assumption) (by assumption))))
    | exact tN_eq (cmpI_pn (sgn_f (by assumption)) (sgn_t (by assumption)))
    | exact tN_eq (cmpI_pp (sgn_f (by assumption)) (sgn_f (by assumption)))
    | exact rfl)
def cZero : Con Try.prog := con1 87 (fun x => True) (fun x => .tv (tB (decide (x = 0)))) ⟨_, Try.func87, by kernel_rfl, rfl⟩ (fun x A c w hl hr => by
  refine fn_ret (cxOk Try.prog ints_ok [] lowK) follows Try.func87 rfl 100 _ rfl (by simp) ?_ (args1 hr)
  repeat' first
    | exact trivial
    | (refine And.intro (show regChk _ _ _ _ _ = true from by kernel_rfl) (And.intro ?_ ?_))
    | refine And.intro ?_ ?_
    | exact tB_eq (show (((lm x).length : Int) == 0) = _ by rw [Bool.eq_iff_iff]; simp only [beq_iff_eq, decide_eq_true_eq]; have := lm_nil' (x := x); omega))
end
end Go.Proofs.Ythokdnheijnmmaa.Wh
