/- Package fx's roots, by the reckoner: whole.Len, Floor (Newton's rounds), Nearest, Sqrt, Root. -/
import Derived.Test.YthokdnheijnmmaaHFw
import Derived.Test.YthokdnheijnmmaaHSxL
set_option linter.unusedVariables false
set_option linter.unusedSimpArgs false
namespace Go.Proofs.Ythokdnheijnmmaa.Wh
open Go Go.RowKit Go.Proofs.YthokdnheijnmmaaW.PrintWords Go.Proofs.YthokdnheijnmmaaW.PrintMore Go.Proofs.YthokdnheijnmmaaW.PrintLast Go.Proofs.YthokdnheijnmmaaW.Aid Go.Proofs.YthokdnheijnmmaaW.Big Go.Proofs.YthokdnheijnmmaaW.Sx Go.Proofs.Ythokdnheijnmmaa.BitsWalk Go.Proofs.Ythokdnheijnmmaa.Limbs Go.Proofs.Ythokdnheijnmmaa.Whole Go.Proofs.Ythokdnheijnmmaa.FxWalk Go.Proofs
/-! ### the root, rounded down -/
def isqN (m : Nat) : Nat → Nat
  | 0 => 0
  | k + 1 => if (k + 1) * (k + 1) ≤ m then k + 1 else isqN m k
theorem isqN_spec (m : Nat) : ∀ k, isqN m k * isqN m k ≤ m ∧ ∀ j, j ≤ k → j * j ≤ m → j ≤ isqN m k
  | 0 => ⟨Nat.zero_le _, fun j h _ => by omega⟩
  | k + 1 => by
    unfold isqN
    split
    · rename_i h; exact ⟨h, fun j hj _ => hj⟩
    · rename_i h
      refine ⟨(isqN_spec m k).1, fun j hj hm => ?_⟩
      by_cases e : j = k + 1
      · subst e; exact absurd hm h
      · exact (isqN_spec m k).2 j (by omega) hm
/-- The root of what is not below 0, rounded down. -/
def isq (n : Int) : Int := (isqN n.natAbs n.natAbs : Nat)
theorem isq_spec {n : Int} (h : 0 ≤ n) : 0 ≤ isq n ∧ isq n * isq n ≤ n ∧ n < (isq n + 1) * (isq n + 1) := by
  obtain ⟨m, rfl⟩ : ∃ m : Nat, n = (m : Int) := ⟨n.natAbs, by omega⟩
  obtain ⟨h1, h2⟩ := isqN_spec m m
  unfold isq
  rw [Int.natAbs_natCast]
  generalize isqN m m = r at *
  refine ⟨by omega, by exact_mod_cast h1, ?_⟩
  by_cases hc : (r + 1) * (r + 1) ≤ m
  · have := h2 (r + 1) (by have := Nat.le_mul_self (r + 1); omega) hc
    omega
  · have : m < (r + 1) * (r + 1) := by omega
    exact_mod_cast this
theorem sq_lt {a b : Int} (ha : 0 ≤ a) (hb : 0 ≤ b) (h : a * a < b * b) : a < b := by
  by_cases hc : a < b
  · exact hc
  · exact absurd (Int.mul_le_mul (show b ≤ a by omega) (show b ≤ a by omega) hb ha) (by omega)
theorem isq_uniq {n r : Int} (h0 : 0 ≤ r) (h1 : r * r ≤ n) (h2 : n < (r + 1) * (r + 1)) : isq n = r := by
  obtain ⟨a, b, c⟩ := isq_spec (n := n) (Int.le_trans (Int.mul_nonneg h0 h0) h1)
  have := sq_lt (a := isq n) (b := r + 1) a (by omega) (by omega)
  have := sq_lt (a := r) (b := isq n + 1) h0 (by omega) (by omega)
  omega
theorem newton_ge {n x s : Int} (hx : 0 < x) (h : s * s ≤ n) : s ≤ (x + n / x) / 2 := by
  have e : (2 * s - x) * x = s * s - (s - x) * (s - x) := by
    simp only [Int.sub_mul, Int.mul_sub, Int.mul_assoc, Int.mul_comm x s]
    omega
  have h0 : 0 ≤ (s - x) * (s - x) := by
    rcases Int.le_total 0 (s - x) with h | h
    · exact Int.mul_nonneg h h
    · exact Int.mul_nonneg_of_nonpos_of_nonpos h h
  have := Int.le_ediv_of_mul_le hx (show (2 * s - x) * x ≤ n by omega)
  omega
theorem newton_le {n x : Int} (hx : 0 < x) (h : x ≤ (x + n / x) / 2) : x * x ≤ n := Int.mul_le_of_le_ediv hx (by omega)
/-! ### how many bits -/
theorem bl_lt : ∀ (f x : Nat), x < 2 ^ f → x < 2 ^ Lib.bitLenAux f x
  | 0, x, h => h
  | f + 1, x, h => by
    unfold Lib.bitLenAux
    split
    · rename_i h0; subst h0; exact Nat.one_pos
    · have := bl_lt f (x / 2) (by rw [Nat.pow_succ] at h; omega)
      rw [Nat.add_comm, Nat.pow_succ]
      omega
theorem bl_le (x : Nat) (h : x < 18446744073709551616) : Lib.bitLen x ≤ 64 := Lib.bitLen_le x 64 (by omega) h
def lenI (x : Int) : Int := if x.natAbs = 0 then 0 else if x.natAbs < 18446744073709551616 then (Lib.bitLen x.natAbs : Nat) else 64 + (Lib.bitLen (x.natAbs / 18446744073709551616) : Nat)
theorem len_spec {x : Int} (h : x.natAbs < 340282366920938463463374607431768211456) : 0 ≤ lenI x ∧ lenI x ≤ 128 ∧ x.natAbs < 2 ^ (lenI x).toNat := by
  unfold lenI
  split
  · rename_i h0; rw [h0]; decide
  · split
    · rename_i h1
      have := bl_le _ h1
      refine ⟨by omega, by omega, ?_⟩
      rw [Int.toNat_natCast]
      exact bl_lt 64 _ h1
    · have h2 : x.natAbs / 18446744073709551616 < 18446744073709551616 := by omega
      have h3 := bl_le _ h2
      have h4 : x.natAbs / 18446744073709551616 < 2 ^ Lib.bitLen (x.natAbs / 18446744073709551616) := bl_lt 64 _ h2
      refine ⟨by omega, by omega, ?_⟩
      rw [show (64 + (Lib.bitLen (x.natAbs / 18446744073709551616) : Int)).toNat = 64 + Lib.bitLen (x.natAbs / 18446744073709551616) by omega, Nat.pow_add]
      generalize 2 ^ Lib.bitLen (x.natAbs / 18446744073709551616) = p at *
      omega
def conU (f : FuncId) (pre : Int → Prop) (r : Int → CR) (hf : FOk Try.prog f) (ok : ∀ n w, pre n → Ret Try.prog f #[.int .u64 n] w (r n)) : Con Try.prog where
  f := f
  sem := fun xs => match xs with
    | [.sc (.v (.int .u64 n))] => some (pre n, r n)
    | _ => none
  ok := by
    intro xs p r' h hp
    refine ⟨hf, fun us w ha => ?_⟩
    split at h
    · rename_i n
      cases h
      obtain ⟨u, rfl, h1⟩ := all2_1 ha
      rw [show _ = _ from h1]
      exact ok n w hp
    · cases h
def cLen64 : Con Try.prog := conU 115 (fun n => 0 ≤ n ∧ n < 18446744073709551616) (fun n => .tv (tN .i64 ((Lib.bitLen n.toNat : Nat) : Int))) ⟨_, Try.func115, by kernel_rfl, rfl⟩
  (fun n w h => (Long.len64_calls n w h.1 h.2).mono fun e w' h => ⟨_, h.1, rfl, by rw [← h.2]; exact Below.refl _ w⟩)
theorem top_ix {x : Int} (hl : x.natAbs < 340282366920938463463374607431768211456) (h : (((lm x).length : Int) == 0) = false) : IntKind.i64.wrap (((lm x).length : Int) - 1) = ((lm x).length : Int) - 1 ∧ 0 < (lm x).length ∧ (lm x).length ≤ 2 := by
  have h2 : (lm x).length ≤ 2 := limbs_len (k := 2) (by simpa using hl)
  have h0 : 0 < (lm x).length := by have := len_gt h; omega
  refine ⟨?_, h0, h2⟩
  rw [i64_w, wrap64_id (by omega) (by omega)]
theorem len_fin {x : Int} (hl : x.natAbs < 340282366920938463463374607431768211456) (h : (((lm x).length : Int) == 0) = false) :
    IntKind.i64.wrap (IntKind.i64.wrap (64 * IntKind.i64.wrap (((lm x).length : Int) - 1)) + ((Lib.bitLen (rd (lm x) (IntKind.i64.wrap (((lm x).length : Int) - 1))).toNat : Nat) : Int)) = lenI x := by
  rw [(top_ix hl h).1]
  have h0 : x.natAbs ≠ 0 := by
    intro e
    have := (top_ix hl h).2.1
    unfold lm at this; rw [e, limbs_zero] at this; exact absurd this (by decide)
  unfold lenI
  rw [if_neg h0]
  by_cases h1 : x.natAbs < 18446744073709551616
  · have e : lm x = [(x.natAbs : Int)] := limbs_word h0 h1
    have := bl_le _ h1
    rw [if_pos h1, e]
    simp only [i64_w, List.length_singleton]
    rw [show (64 * (((1 : Nat) : Int) - 1)) = 0 from rfl, show ((1 : Nat) : Int) - 1 = 0 from rfl, show wrap64 0 = 0 from wrap64_id (by omega) (by omega), show rd [(x.natAbs : Int)] 0 = (x.natAbs : Int) from rfl, Int.toNat_natCast, wrap64_id (by omega) (by omega)]
    omega
  · have e : lm x = [((x.natAbs % 18446744073709551616 : Nat) : Int), ((x.natAbs / 18446744073709551616 : Nat) : Int)] := by
      show limbs x.natAbs = _
      rw [limbs_pos h0, limbs_word (by omega) (by omega)]
    have := bl_le (x.natAbs / 18446744073709551616) (by omega)
    rw [if_neg h1, e]
    simp only [i64_w, List.length_cons, List.length_nil]
    rw [show (64 * (((0 + 1 + 1 : Nat) : Int) - 1)) = 64 from rfl, show ((0 + 1 + 1 : Nat) : Int) - 1 = 1 from rfl, show wrap64 64 = 64 from wrap64_id (by omega) (by omega), show rd [((x.natAbs % 18446744073709551616 : Nat) : Int), ((x.natAbs / 18446744073709551616 : Nat) : Int)] 1 = ((x.natAbs / 18446744073709551616 : Nat) : Int) from rfl, Int.toNat_natCast, wrap64_id (by omega) (by omega)]
theorem rd_lm (x i : Int) : 0 ≤ rd (lm x) i ∧ rd (lm x) i < 18446744073709551616 := by
  by_cases h : i.toNat < (lm x).length
  · have e : rd (lm x) i = (lm x)[i.toNat] := by unfold rd; simp [List.getD_eq_getElem?_getD, h]
    rw [e]
    exact limbs_dig _ _ (List.getElem_mem h)
  · have e : rd (lm x) i = 0 := by unfold rd; simp [List.getD_eq_getElem?_getD, h]
    rw [e]; decide
theorem top_ge {x : Int} (hl : x.natAbs < 340282366920938463463374607431768211456) (h : (((lm x).length : Int) == 0) = false) : 0 ≤ IntKind.i64.wrap (((lm x).length : Int) - 1) ∧ IntKind.i64.wrap (((lm x).length : Int) - 1) < ((lm x).length : Int) := by
  obtain ⟨h1, h2, h3⟩ := top_ix hl h
  omega
theorem len_zero {x : Int} (h : (((lm x).length : Int) == 0) = true) : 0 = lenI x := by
  have h' := beq_iff_eq.1 h
  have : x = 0 := lm_nil'.1 (by omega)
  subst this
  rfl
theorem n_eq {z z' : Int} (h : z = z') : (some (CR.tv (tN .i64 z)) : Option CR) = some (CR.tv (tN .i64 z')) := by rw [h]
section
set_option maxRecDepth 100000
set_option maxHeartbeats 1000000
def cLen : Con Try.prog := con1 89 (fun x => x.natAbs < 340282366920938463463374607431768211456) (fun x => .tv (tN .i64 (lenI x))) ⟨_, Try.func89, by kernel_rfl, rfl⟩ (fun x A c w hl hr => by
  refine fn_ret (cxOk Try.prog ints_ok [] [cLen64]) follows Try.func89 rfl 100 _ rfl (by simp) ?_ (args1 hr)
  repeat' first
    | exact trivial
    | (refine And.intro (show regChk _ _ _ _ _ = true from by kernel_rfl) (And.intro ?_ ?_))
    | (refine And.intro (fun hb => ?_) (fun hb' => ?_))
    | refine And.intro ?_ ?_
    | intro _
  all_goals first
    | (show some (CR.tv (tN .i64 _)) = some (CR.tv (tN .i64 _)); first | exact n_eq (len_fin hl (by assumption)) | exact n_eq (len_zero (by assumption)))
    | (show (0 : Int) ≤ rd _ _; exact (rd_lm _ _).1)
    | (show rd _ _ < (_ : Int); exact (rd_lm _ _).2)
    | (show (0 : Int) ≤ IntKind.i64.wrap _; exact (top_ge hl (by assumption)).1)
    | (show IntKind.i64.wrap _ < (_ : Int); exact (top_ge hl (by assumption)).2))
/-- What Newton's rounds keep: a number from the root on. -/
def flL (n : Int) : LI Int where
  gs := fun x => [(1, .ptr 1 0), (2, .ptr 2 0), (3, .ptr 3 0)]
  bs := fun x => [(1, 58, [.neg n, .mag n]), (2, 58, [.neg 0, .mag 0]), (3, 58, [.neg x, .mag x])]
  I := fun x => isq n ≤ x ∧ x ≤ 4611686018427387904
  μ := fun x => x.toNat
theorem len_128 {x : Int} (h0 : 0 ≤ x) (h : x < 340282366920938463463374607431768211456) : Len0 x := by
  have : (lm x).length ≤ 2 := limbs_len (k := 2) (by show x.natAbs < 340282366920938463463374607431768211456; omega)
  show (lm x).length ≤ 1000
  omega
theorem isq_pos {n : Int} (h0 : 0 ≤ n) (h : decide (n = 0) = false) : 1 ≤ isq n := by
  have h' := of_decide_eq_false h
  obtain ⟨a, b, c⟩ := isq_spec h0
  by_cases hz : isq n = 0
  · rw [hz] at c; omega
  · omega
theorem fl_v {n v : Int} (h0 : 0 ≤ n) (h : decide (n = 0) = false) (hv : isq n ≤ v ∧ v ≤ 4611686018427387904) : 0 < v ∧ v < 18446744073709551616 := by
  have := isq_pos h0 h
  omega
theorem fl_q {n v : Int} (h0 : 0 ≤ n) (hn : n < 1329227995784915872903807060280344576) (h : decide (n = 0) = false) (hv : isq n ≤ v ∧ v ≤ 4611686018427387904) : 0 ≤ n / v ∧ n / v < 1329227995784915872903807060280344576 := by
  have hp := (fl_v h0 h hv).1
  have := Int.ediv_nonneg h0 (show 0 ≤ v by omega)
  have := Int.ediv_le_self v h0
  omega
theorem fl_e (x : Int) : x / 2 ^ Int.toNat 1 = x / 2 := rfl
theorem cmpI_ge {x y : Int} (h : decide (cmpI x y ≥ 0) = true) : y ≤ x := by
  have := of_decide_eq_true h
  unfold cmpI at this
  split at this
  · omega
  · omega
theorem cmpI_lt {x y : Int} (h : decide (cmpI x y ≥ 0) = false) : x < y := by
  have := of_decide_eq_false h
  unfold cmpI at this
  split at this
  · assumption
  · split at this <;> omega
theorem fl_done {n v : Int} (h0 : 0 ≤ n) (h : decide (n = 0) = false) (hv : isq n ≤ v ∧ v ≤ 4611686018427387904) (hc : decide (cmpI ((v + n / v) / 2 ^ Int.toNat 1) v ≥ 0) = true) : v = isq n := by
  have hp := (fl_v h0 h hv).1
  have h1 := newton_le hp (cmpI_ge (by rw [fl_e] at hc; exact hc))
  obtain ⟨a, b, c⟩ := isq_spec h0
  have := sq_lt (a := v) (b := isq n + 1) (by omega) (by omega) (by omega)
  omega
theorem fl_next {n v : Int} (h0 : 0 ≤ n) (h : decide (n = 0) = false) (hv : isq n ≤ v ∧ v ≤ 4611686018427387904) (hc : decide (cmpI ((v + n / v) / 2 ^ Int.toNat 1) v ≥ 0) = false) :
    ((v + n / v) / 2 ^ Int.toNat 1).toNat < v.toNat ∧ isq n ≤ (v + n / v) / 2 ^ Int.toNat 1 ∧ (v + n / v) / 2 ^ Int.toNat 1 ≤ 4611686018427387904 := by
  have hp := (fl_v h0 h hv).1
  rw [fl_e] at hc ⊢
  have h1 := cmpI_lt hc
  have h2 := newton_ge hp (isq_spec h0).2.1
  have := isq_pos h0 h
  generalize (v + n / v) / 2 = y at *
  omega
theorem fl_zero {n : Int} (h : decide (n = 0) = true) : 0 = isq n := by
  rw [of_decide_eq_true h]; rfl
theorem fl_pw {n : Int} (h0 : 0 ≤ n) (hn : n < 1329227995784915872903807060280344576) : 0 ≤ IntKind.i64.wrap (IntKind.i64.wrap ((lenI n).tdiv 2) + 1) ∧ IntKind.i64.wrap (IntKind.i64.wrap ((lenI n).tdiv 2) + 1) ≤ 61 ∧ isq n ≤ 2 ^ (IntKind.i64.wrap (IntKind.i64.wrap ((lenI n).tdiv 2) + 1)).toNat := by
  have hb : lenI n ≤ 120 := by
    unfold lenI
    split
    · decide
    · split
      · have := bl_le n.natAbs (by omega); omega
      · have := Lib.bitLen_le (n.natAbs / 18446744073709551616) 56 (by omega) (by show _ < 72057594037927936; omega); omega
  obtain ⟨a, b, c⟩ := len_spec (x := n) (by omega)
  have e : (lenI n).tdiv 2 = lenI n / 2 := Int.tdiv_eq_ediv_of_nonneg a
  rw [i64_w, i64_w, e, wrap64_id (x := lenI n / 2) (by omega) (by omega), wrap64_id (by omega) (by omega)]
  refine ⟨by omega, by omega, ?_⟩
  generalize lenI n = L at *
  obtain ⟨r1, r2, r3⟩ := isq_spec h0
  have : isq n < 2 ^ (L / 2 + 1).toNat := by
    refine sq_lt r1 (Int.pow_nonneg (by decide)) (Int.lt_of_le_of_lt r2 ?_)
    rw [← Int.pow_add]
    have h1 : (n.natAbs : Int) < 2 ^ L.toNat := by exact_mod_cast c
    have h2 : (2 : Int) ^ L.toNat ≤ 2 ^ ((L / 2 + 1).toNat + (L / 2 + 1).toNat) := by
      have := Nat.pow_le_pow_right (show 0 < 2 by decide) (show L.toNat ≤ (L / 2 + 1).toNat + (L / 2 + 1).toNat by omega)
      exact_mod_cast this
    omega
  omega
theorem pow_61 {k : Int} (h : k ≤ 61) : (2 : Int) ^ k.toNat ≤ 4611686018427387904 := by
  have h1 : 2 ^ k.toNat ≤ 2 ^ 62 := Nat.pow_le_pow_right (show 0 < 2 by decide) (show k.toNat ≤ 62 by omega)
  have h2 := Int.ofNat_le.2 h1
  rw [Int.natCast_pow] at h2
  exact h2
def cFloor : Con Try.prog := con1 55 (fun n => 0 ≤ n ∧ n < 1329227995784915872903807060280344576) (fun n => .tv (tI (isq n))) ⟨_, Try.func55, by kernel_rfl, rfl⟩ (fun n A c w hl hr => by
  obtain ⟨h0, hn⟩ := hl
  refine fnl_ret (flL n) (cxOk Try.prog ints_ok [] [cLen, cDown, cRight, cAdd, cCmp, cZero, cPower]) follows Try.func55 rfl 100 _ rfl (by simp) ?_ (args1 hr)
  repeat' first
    | exact trivial
    | (refine And.intro (show regChk _ _ _ _ _ = true from by kernel_rfl) (And.intro ?_ ?_))
    | (refine And.intro (fun hb => ?_) (fun hb' => ?_))
    | refine And.intro ?_ ?_
    | (show ¬ _; show (2 : Int) ≠ 0; decide)
    | intro _
  all_goals first
    | (show (_ : Int) = (_ : Int); rfl)
    | (show wfB _ _ = true; rfl)
    | (show Int.natAbs _ < (_ : Nat); omega)
    | (show (0 : Int) ≤ IntKind.i64.wrap _; exact (fl_pw h0 hn).1)
    | (show IntKind.i64.wrap _ ≤ (6400 : Int); exact Int.le_trans (fl_pw h0 hn).2.1 (by decide))
    | (show (∃ v, atL (flL n) v _); exact ⟨_, ⟨(fl_pw h0 hn).2.2, pow_61 (fl_pw h0 hn).2.1⟩, ⟨rfl, rfl, rfl, trivial⟩, ⟨rfl, ⟨rfl, rfl, trivial⟩, ⟨rfl, ⟨rfl, rfl, trivial⟩, ⟨rfl, ⟨rfl, rfl, trivial⟩, trivial⟩⟩⟩⟩)
    | (show (∃ v', (flL n).μ v' < (flL n).μ _ ∧ atL (flL n) v' _); exact ⟨_, (fl_next h0 (by assumption) (by assumption) (by assumption)).1, (fl_next h0 (by assumption) (by assumption) (by assumption)).2, ⟨rfl, rfl, rfl, trivial⟩, ⟨rfl, ⟨rfl, rfl, trivial⟩, ⟨rfl, ⟨rfl, rfl, trivial⟩, ⟨rfl, ⟨rfl, rfl, trivial⟩, trivial⟩⟩⟩⟩)
    | (show Len0 n; exact len_128 h0 (by omega))
    | (show Len0 (_ + _); exact len_128 (by have := fl_v h0 (by assumption) (by assumption); have := fl_q h0 hn (by assumption) (by assumption); omega) (by have := fl_v h0 (by assumption) (by assumption); have := fl_q h0 hn (by assumption) (by assumption); omega))
    | (show Len0 (_ / _); exact len_128 (fl_q h0 hn (by assumption) (by assumption)).1 (by have := fl_q h0 hn (by assumption) (by assumption); omega))
    | (show Len0 _; exact len_128 (by have := fl_v h0 (by assumption) (by assumption); omega) (by have := fl_v h0 (by assumption) (by assumption); omega))
    | (show (0 : Int) < _; exact (fl_v h0 (by assumption) (by assumption)).1)
    | (show _ < (18446744073709551616 : Int); exact (fl_v h0 (by assumption) (by assumption)).2)
    | (show (0 : Int) ≤ _ + _; have := fl_v h0 (by assumption) (by assumption); have := fl_q h0 hn (by assumption) (by assumption); omega)
    | (show (_ : Int) ≤ _; decide)
    | (show some (CR.tv (tI _)) = some (CR.tv (tI _)); first | exact wh_eq (fl_zero (by assumption)) | exact wh_eq (fl_done h0 (by assumption) (by assumption) (by assumption))))
theorem len_mul (x y : Int) : (lm (x * y)).length ≤ (lm x).length + (lm y).length := by
  refine limbs_len ?_
  rw [Int.natAbs_mul, Nat.pow_add]
  have h1 : x.natAbs < 18446744073709551616 ^ (lm x).length := by have := val_lt (limbs_dig x.natAbs); rw [val_limbs] at this; exact this
  have h2 : y.natAbs < 18446744073709551616 ^ (lm y).length := by have := val_lt (limbs_dig y.natAbs); rw [val_limbs] at this; exact this
  exact Nat.mul_lt_mul'' h1 h2
/-- The nearest whole number to the root of n / d, of two as near the even one. -/
def nearB (n d x : Int) : Bool := bif decide (cmpI ((x * 2 ^ Int.toNat 1 + 1) * (x * 2 ^ Int.toNat 1 + 1) * d) (n * 2 ^ Int.toNat 2) < 0) then true else bif cmpI ((x * 2 ^ Int.toNat 1 + 1) * (x * 2 ^ Int.toNat 1 + 1) * d) (n * 2 ^ Int.toNat 2) == 0 then !decide (x % 2 = 0) else false
def nearR (n d : Int) : Int := if nearB n d (isq (n / d)) = true then isq (n / d) + 1 else isq (n / d)
theorem isq_le {n : Int} (h0 : 0 ≤ n) (hn : n < 1329227995784915872903807060280344576) : 0 ≤ isq n ∧ isq n < 1329227995784915872903807060280344576 := by
  obtain ⟨a, b, c⟩ := isq_spec h0
  refine ⟨a, ?_⟩
  by_cases h : isq n = 0
  · omega
  · have := Int.mul_le_mul_of_nonneg_left (show 1 ≤ isq n by omega) a
    omega
theorem div_bd {n d : Int} (h0 : 0 ≤ n) (hn : n < 1329227995784915872903807060280344576) (hd : 0 < d) : 0 ≤ n / d ∧ n / d < 1329227995784915872903807060280344576 := by
  have := Int.ediv_nonneg h0 (show 0 ≤ d by omega)
  have := Int.ediv_le_self d h0
  omega
theorem len2 {x : Int} (h0 : 0 ≤ x) (h : x < 340282366920938463463374607431768211456) : (lm x).length ≤ 2 := limbs_len (k := 2) (by show x.natAbs < 340282366920938463463374607431768211456; omega)
theorem near1 {n d : Int} (h : nearB n d (isq (n / d)) = true) : isq (n / d) + 1 = nearR n d := by unfold nearR; rw [if_pos h]
theorem near0 {n d : Int} (h : nearB n d (isq (n / d)) = false) : isq (n / d) = nearR n d := by unfold nearR; rw [h]; rfl
def cNearest : Con Try.prog := con2 60 (fun n d => (0 ≤ n ∧ n < 1329227995784915872903807060280344576) ∧ 0 < d ∧ d < 18446744073709551616) (fun n d => .tv (tI (nearR n d))) ⟨_, Try.func60, by kernel_rfl, rfl⟩ (fun n d A A' c c' w hl hr hr' => by
  obtain ⟨⟨h0, hn⟩, hd, hd'⟩ := hl
  have q := div_bd h0 hn hd
  have s := isq_le q.1 q.2
  have l1 : Len0 (isq (n / d)) := len_128 s.1 (by omega)
  have l2 : Len0 (isq (n / d) * 2 ^ Int.toNat 1) := len_128 (by show 0 ≤ _ * 2; omega) (by show _ * 2 < (_ : Int); omega)
  have l4 : (lm (isq (n / d) * 2 ^ Int.toNat 1 + 1)).length ≤ 2 := len2 (by show 0 ≤ _ * 2 + 1; omega) (by show _ * 2 + 1 < (_ : Int); omega)
  have l3 : Len0 (isq (n / d) * 2 ^ Int.toNat 1 + 1) := Nat.le_trans l4 (by decide)
  have l5 : Len0 ((isq (n / d) * 2 ^ Int.toNat 1 + 1) * (isq (n / d) * 2 ^ Int.toNat 1 + 1)) := Nat.le_trans (len_mul _ _) (by omega)
  have l6 : (lm d).length ≤ 1 := lm_one d (by omega)
  have l7 : Len0 n := len_128 h0 (by omega)
  refine fn_ret (cxOk Try.prog ints_ok [] [cFloor, cDown, cLeft, cOne, cAdd, cMul, cCmp, cEven]) follows Try.func60 rfl 100 _ rfl (by simp) ?_ (args2 hr hr')
  repeat' first
    | exact trivial
    | (refine And.intro (show regChk _ _ _ _ _ = true from by kernel_rfl) (And.intro ?_ ?_))
    | (refine And.intro (fun hb => ?_) (fun hb' => ?_))
    | refine And.intro ?_ ?_
    | intro _
  all_goals first
    | (show (_ : Int) = (_ : Int); rfl)
    | (show Len0 _; first | exact l7 | exact l1 | exact l2 | exact l3 | exact l5 | exact len_1)
    | (show List.length _ < 24; first | exact Nat.lt_of_le_of_lt l6 (by decide) | exact Nat.lt_of_le_of_lt l4 (by decide))
    | (show (0 : Int) ≤ (1 : Int); decide)
    | (show (0 : Int) ≤ (2 : Int); decide)
    | (show (_ : Int) ≤ 6400; decide)
    | exact q.1
    | exact q.2
    | exact hd
    | exact hd'
    | (show some (CR.tv (tI _)) = some (CR.tv (tI _)); first | exact wh_eq (near1 (by assumption)) | exact wh_eq (near0 (by assumption)))
    | (show (_ : Bool) = (_ : Bool); first | assumption | exact beq_iff_eq.2 (by assumption) | exact g2 (by assumption) (by assumption)))
/-- What Sqrt answers. -/
def sqrtR (a : Int) : Int × Int := if wd a = true ∧ 0 ≤ a then toldR (isq a) else (0, 1)
/-- What Root answers. -/
def rootR (a : Int) : Int × Int := if wd a = true ∧ 0 ≤ a then toldR (nearR (a * 1073741824) 1) else (0, 1)
theorem word0 {a : Int} (h : (bif !wd a then true else decide (a < 0)) = false) : wd a = true ∧ 0 ≤ a ∧ a < 35184372088832 := by
  cases hw : wd a with
  | false => rw [hw] at h; cases h
  | true =>
    rw [hw] at h
    have h1 : ¬ a < 0 := of_decide_eq_false h
    have := (wd_iff.1 hw).2
    exact ⟨rfl, by omega, this⟩
theorem word1 {a : Int} (h : (bif !wd a then true else decide (a < 0)) = true) : ¬ (wd a = true ∧ 0 ≤ a) := by
  rintro ⟨hw, h0⟩
  rw [hw] at h
  have h1 : a < 0 := of_decide_eq_true h
  omega
theorem sqrt0 {a : Int} (h : (bif !wd a then true else decide (a < 0)) = false) : ((toldR (isq a)).1, (toldR (isq a)).2) = ((sqrtR a).1, (sqrtR a).2) := by
  unfold sqrtR; rw [if_pos ⟨(word0 h).1, (word0 h).2.1⟩]
theorem sqrt1 {a : Int} (h : (bif !wd a then true else decide (a < 0)) = true) : ((0 : Int), (1 : Int)) = ((sqrtR a).1, (sqrtR a).2) := by
  unfold sqrtR; rw [if_neg (word1 h)]
theorem root0 {a : Int} (h : (bif !wd a then true else decide (a < 0)) = false) : ((toldR (nearR (a * 2 ^ Int.toNat 30) 1)).1, (toldR (nearR (a * 2 ^ Int.toNat 30) 1)).2) = ((rootR a).1, (rootR a).2) := by
  unfold rootR; rw [if_pos ⟨(word0 h).1, (word0 h).2.1⟩]; rfl
theorem root1 {a : Int} (h : (bif !wd a then true else decide (a < 0)) = true) : ((0 : Int), (1 : Int)) = ((rootR a).1, (rootR a).2) := by
  unfold rootR; rw [if_neg (word1 h)]
def cSqrt : Con Try.prog := conN 30 (fun _ => True) (fun a => .tv (tNN (sqrtR a).1 (sqrtR a).2)) ⟨_, Try.func30, by kernel_rfl, rfl⟩ (fun a w hl => by
  refine fn_ret (cxOk Try.prog ints_ok [] [cGood, cFrom, cFloor, cTold]) follows Try.func30 rfl 100 _ rfl (by simp) ?_ (xs := [tN .i64 a]) (.cons rfl .nil)
  repeat' first
    | exact trivial
    | (refine And.intro (show regChk _ _ _ _ _ = true from by kernel_rfl) (And.intro ?_ ?_))
    | (refine And.intro (fun hb => ?_) (fun hb' => ?_))
    | refine And.intro ?_ ?_
    | intro _
  all_goals first
    | (show (_ : Int) = (_ : Int); rfl)
    | (show (_ : Bool) = (_ : Bool); first | assumption | exact beq_iff_eq.2 (by assumption))
    | (show some (CR.tv (tNN _ _)) = some (CR.tv (tNN _ _)); first | (have h1 := sqrt0 (a := a) (by assumption); exact nn_eq h1) | (have h1 := sqrt1 (a := a) (by assumption); exact nn_eq h1))
    | (show Len0 (_ * _); exact len_128 (by have := word0 (a := a) (by assumption); show 0 ≤ a * 1073741824; omega) (by have := word0 (a := a) (by assumption); show a * 1073741824 < (_ : Int); omega))
    | (show Len0 _; exact len_128 (word0 (a := a) (by assumption)).2.1 (by have := word0 (a := a) (by assumption); omega))
    | (show (0 : Int) ≤ a * 2 ^ _; have := word0 (a := a) (by assumption); show 0 ≤ a * 1073741824; omega)
    | (show a * 2 ^ _ < (_ : Int); have := word0 (a := a) (by assumption); show a * 1073741824 < (_ : Int); omega)
    | (show (_ : Int) ≤ a; have := word0 (a := a) (by assumption); omega)
    | (show a < (_ : Int); have := word0 (a := a) (by assumption); omega)
    | (show (0 : Int) ≤ (30 : Int); decide)
    | (show (30 : Int) ≤ (6400 : Int); decide)
    | (show (0 : Int) < (1 : Int); decide)
    | (show (1 : Int) < (18446744073709551616 : Int); decide))
def cRoot : Con Try.prog := conN 33 (fun _ => True) (fun a => .tv (tNN (rootR a).1 (rootR a).2)) ⟨_, Try.func33, by kernel_rfl, rfl⟩ (fun a w hl => by
  refine fn_ret (cxOk Try.prog ints_ok [] [cGood, cFrom, cLeft, cOne, cNearest, cTold]) follows Try.func33 rfl 100 _ rfl (by simp) ?_ (xs := [tN .i64 a]) (.cons rfl .nil)
  repeat' first
    | exact trivial
    | (refine And.intro (show regChk _ _ _ _ _ = true from by kernel_rfl) (And.intro ?_ ?_))
    | (refine And.intro (fun hb => ?_) (fun hb' => ?_))
    | refine And.intro ?_ ?_
    | intro _
  all_goals first
    | (show (_ : Int) = (_ : Int); rfl)
    | (show (_ : Bool) = (_ : Bool); first | assumption | exact beq_iff_eq.2 (by assumption))
    | (show some (CR.tv (tNN _ _)) = some (CR.tv (tNN _ _)); first | (have h1 := root0 (a := a) (by assumption); exact nn_eq h1) | (have h1 := root1 (a := a) (by assumption); exact nn_eq h1))
    | (show Len0 (_ * _); exact len_128 (by have := word0 (a := a) (by assumption); show 0 ≤ a * 1073741824; omega) (by have := word0 (a := a) (by assumption); show a * 1073741824 < (_ : Int); omega))
    | (show Len0 _; exact len_128 (word0 (a := a) (by assumption)).2.1 (by have := word0 (a := a) (by assumption); omega))
    | (show (0 : Int) ≤ a * 2 ^ _; have := word0 (a := a) (by assumption); show 0 ≤ a * 1073741824; omega)
    | (show a * 2 ^ _ < (_ : Int); have := word0 (a := a) (by assumption); show a * 1073741824 < (_ : Int); omega)
    | (show (_ : Int) ≤ a; have := word0 (a := a) (by assumption); omega)
    | (show a < (_ : Int); have := word0 (a := a) (by assumption); omega)
    | (show (0 : Int) ≤ (30 : Int); decide)
    | (show (30 : Int) ≤ (6400 : Int); decide)
    | (show (0 : Int) < (1 : Int); decide)
    | (show (1 : Int) < (18446744073709551616 : Int); decide))
end
theorem sqrt_calls (a : Int) (w : World) : Calls Try.prog 30 #[.int .i64 a] w fun e w' => e = .returned (.tuple #[.int .i64 (sqrtR a).1, .int .i64 (sqrtR a).2]) ∧ Below w.heap.size w w' :=
  told_nn ((cSqrt.ok [tN .i64 a] _ _ rfl trivial).2 _ w (.cons rfl .nil))
theorem root_calls (a : Int) (w : World) : Calls Try.prog 33 #[.int .i64 a] w fun e w' => e = .returned (.tuple #[.int .i64 (rootR a).1, .int .i64 (rootR a).2]) ∧ Below w.heap.size w w' :=
  told_nn ((cRoot.ok [tN .i64 a] _ _ rfl trivial).2 _ w (.cons rfl .nil))
end Go.Proofs.Ythokdnheijnmmaa.Wh
