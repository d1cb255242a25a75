/- Package whole, told by the reckoner: contracts of its functions over whole numbers. -/
import Derived.Test.YthokdnheijnmmaaHInt
import Derived.Test.YthokdnheijnmmaaHMul
import Derived.Test.YthokdnheijnmmaaHDivW
import Derived.Test.YthokdnheijnmmaaHRight
import Derived.Test.YthokdnheijnmmaaHShift
import Derived.Test.YthokdnheijnmmaaHSub
import Derived.Test.YthokdnheijnmmaaHLen
import Derived.Test.YthokdnheijnmmaaHSx
set_option linter.unusedVariables false
set_option linter.unusedSimpArgs false
namespace Go.Proofs.Ythokdnheijnmmaa.Wh
open Go Go.RowKit Go.Proofs.YthokdnheijnmmaaW.PrintWords Go.Proofs.YthokdnheijnmmaaW.PrintMore Go.Proofs.YthokdnheijnmmaaW.Aid Go.Proofs.YthokdnheijnmmaaW.Big Go.Proofs.YthokdnheijnmmaaW.Sx Go.Proofs.Ythokdnheijnmmaa.BitsWalk Go.Proofs.Ythokdnheijnmmaa.Limbs Go.Proofs.Ythokdnheijnmmaa.Whole Go.Proofs
theorem follows : Try.prog.follows .mixedOrders = true := by kernel_rfl
abbrev ints : List TypeId := [58]
theorem ints_ok : intsOk Try.prog ints := by unfold intsOk; kernel_rfl
theorem lm_nat (m : Nat) : lm (m : Int) = limbs m := by unfold lm; rw [Int.natAbs_natCast]
abbrev tM (m : Nat) : TV := .sc (.mag (m : Int))
theorem Ret.mag {f : FuncId} {us : Array Value} {w : World} {m : Nat} (h : Calls Try.prog f us w (RetRd (limbs m) w)) : Ret Try.prog f us w (.tv (tM m)) :=
  h.mono fun _ _ ⟨A, c, he, hr, hb⟩ => ⟨_, he, ⟨A, c, by rw [lm_nat], by rw [lm_nat]; exact hr⟩, hb⟩
/-- Two magnitudes. -/
def conMM (f : FuncId) (pre : Nat → Nat → Prop) (r : Nat → Nat → CR) (hf : FOk Try.prog f) (ok : ∀ a b A A' c c' w, pre a b → Rd w (limbs a) A c → Rd w (limbs b) A' c' → Ret Try.prog f #[.slice A (limbs a).length c, .slice A' (limbs b).length c'] w (r a b)) : Con Try.prog where
  f := f
  sem := fun xs => match xs with
    | [.sc (.mag x), .sc (.mag y)] => some (pre x.natAbs y.natAbs, r x.natAbs y.natAbs)
    | _ => none
  ok := by
    intro xs p r' h hp
    refine ⟨hf, fun us w ha => ?_⟩
    split at h
    · rename_i x y
      cases h
      obtain ⟨u, v, rfl, h1, h2⟩ := all2_2 ha
      obtain ⟨A, c, rfl, hr⟩ := reads_mag h1
      obtain ⟨A', c', rfl, hr'⟩ := reads_mag h2
      exact ok _ _ A A' c c' w hp hr hr'
    · cases h
def conM (f : FuncId) (pre : Nat → Prop) (r : Nat → CR) (hf : FOk Try.prog f) (ok : ∀ a A c w, pre a → Rd w (limbs a) A c → Ret Try.prog f #[.slice A (limbs a).length c] w (r a)) : Con Try.prog where
  f := f
  sem := fun xs => match xs with
    | [.sc (.mag x)] => some (pre x.natAbs, r x.natAbs)
    | _ => none
  ok := by
    intro xs p r' h hp
    refine ⟨hf, fun us w ha => ?_⟩
    split at h
    · rename_i x
      cases h
      obtain ⟨u, rfl, h1⟩ := all2_1 ha
      obtain ⟨A, c, rfl, hr⟩ := reads_mag h1
      exact ok _ A c w hp hr
    · cases h
def conMn (f : FuncId) (pre : Nat → Int → Prop) (r : Nat → Int → CR) (hf : FOk Try.prog f) (ok : ∀ a n A c w, pre a n → Rd w (limbs a) A c → Ret Try.prog f #[.slice A (limbs a).length c, .int .i64 n] w (r a n)) : Con Try.prog where
  f := f
  sem := fun xs => match xs with
    | [.sc (.mag x), .sc (.v (.int .i64 n))] => some (pre x.natAbs n, r x.natAbs n)
    | _ => none
  ok := by
    intro xs p r' h hp
    refine ⟨hf, fun us w ha => ?_⟩
    split at h
    · rename_i x n
      cases h
      obtain ⟨u, v, rfl, h1, h2⟩ := all2_2 ha
      obtain ⟨A, c, rfl, hr⟩ := reads_mag h1
      rw [show _ = _ from h2]
      exact ok _ n A c w hp hr
    · cases h
def conOf (f : FuncId) (r : Bool → Nat → CR) (hf : FOk Try.prog f) (ok : ∀ b m A c w, Rd w (limbs m) A c → Ret Try.prog f #[.bool b, .slice A (limbs m).length c] w (r b m)) : Con Try.prog where
  f := f
  sem := fun xs => match xs with
    | [.sc cb, .sc (.mag x)] => match cb.val? with
      | some (.bool b) => some (True, r b x.natAbs)
      | _ => none
    | _ => none
  ok := by
    intro xs p r' h hp
    refine ⟨hf, fun us w ha => ?_⟩
    split at h
    · rename_i cb x
      split at h
      · rename_i b hb
        cases h
        obtain ⟨u, v, rfl, h1, h2⟩ := all2_2 ha
        obtain ⟨A, c, rfl, hr⟩ := reads_mag h2
        rw [val_reads (c := .sc cb) hb h1]
        exact ok b _ A c w hr
      · cases h
    · cases h
theorem bel_drewN (w : World) (n : Nat) : Below w.heap.size w (w.drewN n) := pw_below_drewN (Below.refl _ _) n
theorem len_mono' {m n : Nat} (h : m ≤ n) : (limbs m).length ≤ (limbs n).length := by
  rcases Nat.lt_or_ge (limbs n).length (limbs m).length with hh | hh
  · have := cmp_len hh; omega
  · exact hh
abbrev Len1 (a : Nat) : Prop := (limbs a).length ≤ 1000
def cCmpN : Con Try.prog := conMM 110 (fun _ _ => True) (fun a b => .tv (tN .i64 (cmpR a b))) ⟨_, Try.func110, by kernel_rfl, rfl⟩
  (fun a b A A' c c' w _ hr hr' => Ret.val ((cmp_calls a b A A' c c' w hr hr').mono fun _ _ ⟨he, n, hw⟩ => ⟨he, by rw [hw]; exact bel_drewN w n⟩))
def cAddN : Con Try.prog := conMM 111 (fun a b => Len1 a ∧ Len1 b) (fun a b => .tv (tM (a + b))) ⟨_, Try.func111, by kernel_rfl, rfl⟩
  (fun a b A A' c c' w h hr hr' => Ret.mag (by have := add_calls _ _ A A' c c' w (limbs_dig a) (limbs_dig b) hr hr' h.1 h.2; rwa [val_limbs, val_limbs] at this))
def cSubN : Con Try.prog := conMM 112 (fun a b => Len1 a ∧ b ≤ a) (fun a b => .tv (tM (a - b))) ⟨_, Try.func112, by kernel_rfl, rfl⟩
  (fun a b A A' c c' w h hr hr' => Ret.mag (by have := sub_calls _ _ A A' c c' w (limbs_dig a) (limbs_dig b) hr hr' h.1 (len_mono' h.2) (by rw [val_limbs, val_limbs]; exact h.2); rwa [val_limbs, val_limbs] at this))
def cMulN : Con Try.prog := conMM 120 (fun a b => Len1 a ∧ (limbs b).length < 24) (fun a b => .tv (tM (a * b))) ⟨_, Try.func120, by kernel_rfl, rfl⟩
  (fun a b A A' c c' w h hr hr' => Ret.mag (by have := mul_calls _ _ A A' c c' w (limbs_dig a) (limbs_dig b) hr hr' h.1 h.2; rwa [val_limbs, val_limbs] at this))
def cLeftN : Con Try.prog := conMn 100 (fun a n => Len1 a ∧ 0 ≤ n ∧ n ≤ 6400) (fun a n => .tv (tM (a * 2 ^ n.toNat))) ⟨_, Try.func100, by kernel_rfl, rfl⟩
  (fun a n A c w h hr => Ret.mag (by have := left_calls _ n.toNat A c w (limbs_dig a) hr h.1 (by omega); rwa [val_limbs, Int.toNat_of_nonneg h.2.1] at this))
def cRightN : Con Try.prog := conMn 116 (fun a n => Len1 a ∧ 0 ≤ n ∧ n ≤ 6400) (fun a n => .tv (tM (a / 2 ^ n.toNat))) ⟨_, Try.func116, by kernel_rfl, rfl⟩
  (fun a n A c w h hr => Ret.mag (by have := right_calls _ n.toNat A c w (limbs_dig a) hr h.1 (by omega); rwa [val_limbs, Int.toNat_of_nonneg h.2.1] at this))
def cCloneN : Con Try.prog := conM 107 Len1 (fun a => .tv (tM a)) ⟨_, Try.func107, by kernel_rfl, rfl⟩
  (fun a A c w h hr => Ret.mag ((clone_calls _ A c w hr (by omega)).mono fun _ _ h => CloneRet.rd h))
def cDivN : Con Try.prog := conMM 108 (fun a b => Len1 a ∧ 0 < b ∧ b < 18446744073709551616) (fun a b => .tv (.tup [(false, [.mag ((a / b : Nat) : Int)]), (false, [.mag ((a % b : Nat) : Int)])])) ⟨_, Try.func108, by kernel_rfl, rfl⟩
  (fun a b A A' c c' w h hr hr' => (div_calls_word a b A A' c c' w hr hr' h.1 h.2.1 h.2.2).mono fun _ _ ⟨A, c, A', c', he, hr, hr', hb⟩ => ⟨_, he, ⟨[_, _], rfl, .cons ⟨_, rfl, A, c, by rw [lm_nat], by rw [lm_nat]; exact hr⟩ (.cons ⟨_, rfl, A', c', by rw [lm_nat], by rw [lm_nat]; exact hr'⟩ .nil)⟩, hb⟩)
def cOf : Con Try.prog := conOf 84 (fun b m => .tv (tI (ofS b m))) ⟨_, Try.func84, by kernel_rfl, rfl⟩
  (fun b m A c w hr => (Of_calls b m A c w).mono fun _ w' ⟨he, hb⟩ => ⟨_, he, told_int (β := fun _ => 0) (b := 0) (by rw [lm_ofS]; exact hr.below hb), hb⟩)
def cFrom : Con Try.prog := conN 49 (fun n => -9223372036854775808 ≤ n ∧ n < 9223372036854775808) (fun n => .tv (tI n)) ⟨_, Try.func49, by kernel_rfl, rfl⟩
  (fun n w h => Ret.int (From_calls n w h.1 h.2))
abbrev lowK : List (Con Try.prog) := [cCmpN, cAddN, cSubN, cMulN, cLeftN, cRightN, cCloneN, cDivN, cOf, cFrom]
end Go.Proofs.Ythokdnheijnmmaa.Wh
