/- Walks of the words' reckoning that needs no whole numbers of any size: Good, All, Word, sums and differences. -/
import Derived.Test.YthokdnheijnmmaaHMods
set_option linter.unusedVariables false
namespace Go.Proofs.Ythokdnheijnmmaa.FxWalk
open Go.RowKit Go.Proofs.YthokdnheijnmmaaW.PrintWords Go.Proofs.YthokdnheijnmmaaW.PrintLast Go.Proofs.YthokdnheijnmmaaW.PrintMore Go.Proofs.YthokdnheijnmmaaW.Aid

/-- Is it a word? -/
def wd (a : Int) : Bool := decide (-35184372088832 < a) && decide (a < 35184372088832)
theorem wd_iff {a : Int} : wd a = true ↔ -35184372088832 < a ∧ a < 35184372088832 := by simp [wd]
theorem wd_not {a : Int} (h : wd a = false) : a ≤ -35184372088832 ∨ 35184372088832 ≤ a := by
  have : ¬ (wd a = true) := by simp [h]
  rw [wd_iff] at this
  omega
def allw : List Int → Bool
  | [] => true
  | x :: l => wd x && allw l
theorem allw_iff (l : List Int) : allw l = true ↔ ∀ x ∈ l, wd x = true := by
  induction l with
  | nil => simp [allw]
  | cons x l ih => simp [allw, ih]

set_option maxRecDepth 10000 in
set_option maxHeartbeats 400000 in
theorem good_calls (a : Int) (w : World) : Calls Try.prog 54 #[.int .i64 a] w fun e w' => e = .returned (.bool (wd a)) ∧ w = w' := by
  by_cases h1 : -35184372088832 < a
  · by_cases h2 : a < 35184372088832
    · have e : Aside0 (wd a = true) := ⟨wd_iff.2 ⟨h1, h2⟩⟩
      rw [e.out]
      go_enter Try.func54, Try.ntmps54
      go_wp2
      go_ret
      exact ⟨rfl, rfl⟩
    · have e : Aside0 (wd a = false) := ⟨by rw [← Bool.not_eq_true, wd_iff]; omega⟩
      rw [e.out]
      have h2b : decide (a < 35184372088832) = false := decide_eq_false h2
      go_enter Try.func54, Try.ntmps54
      go_wp2
      go_ret
      exact ⟨rfl, rfl⟩
  · have e : Aside0 (wd a = false) := ⟨by rw [← Bool.not_eq_true, wd_iff]; omega⟩
    rw [e.out]
    have h1b : decide (-35184372088832 < a) = false := decide_eq_false h1
    go_enter Try.func54, Try.ntmps54
    go_wp2
    go_ret
    exact ⟨rfl, rfl⟩
theorem good_yes (a : Int) (w : World) (h : wd a = true) : Calls Try.prog 54 #[.int .i64 a] w fun e w' => e = .returned (.bool true) ∧ w = w' := by
  have := good_calls a w
  rwa [h] at this
theorem good_no (a : Int) (w : World) (h : wd a = false) : Calls Try.prog 54 #[.int .i64 a] w fun e w' => e = .returned (.bool false) ∧ w = w' := by
  have := good_calls a w
  rwa [h] at this

theorem allw_take {l : List Int} {k : Nat} (h : k < l.length) : allw (l.take (k + 1)) = (allw (l.take k) && wd (rd l k)) := by
  have hm : ∀ (l : List Int) (x : Int), allw (l ++ [x]) = (allw l && wd x) := by
    intro l x
    induction l with
    | nil => simp [allw]
    | cons y l ih => simp [allw, ih, Bool.and_assoc]
  obtain ⟨hj, e⟩ := rd_at (l := l) (i := (k : Int)) (by omega) (by omega)
  rw [e, List.take_succ_eq_append_getElem h, hm]
  simp
set_option maxRecDepth 10000 in
set_option maxHeartbeats 400000 in
theorem all_calls (l : List Int) (A : Option Addr) (c : Nat) (w : World) (hr : Kd.C (Kd.int .i64) w A l.length l) : Calls Try.prog 44 #[.slice A l.length c] w fun e w' => e = .returned (.bool (allw l)) ∧ w = w' := by
  have HR := Aside0.mk hr
  have hlen : l.length ≤ 9223372036854775807 := hr.2.1
  clear hr
  go_enter Try.func44, Try.ntmps44
  go_wp2_with fail
  go_loop [7] (fun v7 => ∃ k : Nat, k ≤ l.length ∧ v7 = .int .i64 k ∧ Aside0 (allw (l.take k) = true)) (fun v7 => l.length - (intOf v7).toNat)
  case atStart => exact ⟨0, by omega, rfl, ⟨rfl⟩⟩
  case round =>
    obtain ⟨k, hk, rfl, ha⟩ := hrel
    by_cases hlt : k < l.length
    · obtain ⟨ad, rfl, hcell⟩ := Kd.at_int HR.out (k : Int) (by omega) (by omega)
      simp only [Int.toNat_natCast] at hcell
      have hn : Aside0 (allw (l.take (k + 1)) = (allw (l.take k) && wd (rd l k))) := ⟨allw_take hlt⟩
      cases hx : wd (rd l k) with
      | true =>
        have Hx := Aside0.mk hx
        clear hx
        generalize rd l k = x at *
        go_wp2_with fail
        refine (good_yes _ _ Hx.out).mono ?_
        rintro e w1 ⟨rfl, rfl⟩
        go_wp2
        go_round
        case rel => exact ⟨k + 1, by omega, by go_num, ⟨by rw [hn.out, ha.out, Hx.out]; rfl⟩⟩
        case measure => simp [intOf]; omega
      | false =>
        have Hx := Aside0.mk hx
        clear hx
        have hall : Aside0 (allw l = false) := ⟨by
          rw [← Bool.not_eq_true, allw_iff]
          intro h
          have := h _ (rd_mem (i := (k : Int)) (by omega) (by omega))
          rw [Hx.out] at this
          cases this⟩
        generalize rd l k = x at *
        go_wp2_with fail
        refine (good_no _ _ Hx.out).mono ?_
        rintro e w1 ⟨rfl, rfl⟩
        go_wp2
        go_ret
        exact ⟨by rw [hall.out]; rfl, rfl⟩
    · obtain rfl : k = l.length := by omega
      have hall : Aside0 (allw l = true) := ⟨by have := ha.out; rwa [List.take_length] at this⟩
      go_wp2
      go_ret
      exact ⟨by rw [hall.out]; rfl, rfl⟩

/-- A number as a word. -/
def wordR (v : Int) : Int × Int := if wd v = true then (v, 0) else (0, 2)
set_option maxRecDepth 10000 in
set_option maxHeartbeats 400000 in
theorem word_calls (v : Int) (w : World) : Calls Try.prog 78 #[.int .i64 v] w fun e w' => e = .returned (.tuple #[.int .i64 (wordR v).1, .int .i64 (wordR v).2]) ∧ w = w' := by
  cases h : wd v with
  | true =>
    have e1 : Aside0 (wordR v = (v, 0)) := ⟨by unfold wordR; rw [if_pos h]⟩
    rw [e1.out]
    have H := Aside0.mk h
    clear h
    go_enter Try.func78, Try.ntmps78
    go_wp2_with fail
    refine (good_yes _ _ H.out).mono ?_
    rintro e w1 ⟨rfl, rfl⟩
    go_wp2
    go_ret2
    exact ⟨rfl, rfl⟩
  | false =>
    have e1 : Aside0 (wordR v = (0, 2)) := ⟨by unfold wordR; rw [h]; rfl⟩
    rw [e1.out]
    have H := Aside0.mk h
    clear h
    go_enter Try.func78, Try.ntmps78
    go_wp2_with fail
    refine (good_no _ _ H.out).mono ?_
    rintro e w1 ⟨rfl, rfl⟩
    go_wp2
    go_ret2
    exact ⟨rfl, rfl⟩

/-- What a pair's reckoning answers: where both are words. -/
def PairPost (F : Int × Int) (w : World) (e : Ending) (w' : World) : Prop := e = .returned (.tuple #[.int .i64 F.1, .int .i64 F.2]) ∧ Below w.heap.size w w'
section
set_option maxRecDepth 10000
set_option maxHeartbeats 400000
theorem sum_calls (a b : Int) (w : World) (ha : wd a = true) (hb : wd b = true) : Calls Try.prog 45 #[.agg #[.int .i64 a, .int .i64 b]] w (PairPost (wordR (a + b)) w) := by
  rw [wd_iff] at ha hb
  obtain ⟨a1, a2⟩ := ha
  obtain ⟨b1, b2⟩ := hb
  go_enter Try.func45, Try.ntmps45
  go_wp2_with fail
  refine (word_calls _ _).mono ?_
  rintro e w1 ⟨rfl, rfl⟩
  go_wp2
  go_ret2
  exact ⟨rfl, below_alloc (Below.refl _ _) _⟩
theorem less_calls (a b : Int) (w : World) (ha : wd a = true) (hb : wd b = true) : Calls Try.prog 46 #[.agg #[.int .i64 a, .int .i64 b]] w (PairPost (wordR (a - b)) w) := by
  rw [wd_iff] at ha hb
  obtain ⟨a1, a2⟩ := ha
  obtain ⟨b1, b2⟩ := hb
  go_enter Try.func46, Try.ntmps46
  go_wp2_with fail
  refine (word_calls _ _).mono ?_
  rintro e w1 ⟨rfl, rfl⟩
  go_wp2
  go_ret2
  exact ⟨rfl, below_alloc (Below.refl _ _) _⟩
theorem pair_row (w : World) (a b : Int) (g : Nat) (hg : w.heap[g]? = some (.cells #[.int .i64 a, .int .i64 b] 2 (0, 0))) : Kd.C (Kd.int .i64) w (some ⟨g, 0, none⟩) [a, b].length [a, b] := by
  refine ⟨rfl, by simp, fun _ => ⟨_, rfl, fun j p hj => ⟨[.int .i64 p], rfl, rfl, fun i u hu => ?_⟩⟩⟩
  have hi : i = 0 := by
    cases i with
    | zero => rfl
    | succ i => simp at hu
  subst hi
  simp at hu
  subst hu
  match j, hj with
  | 0, hj => simp at hj; subst hj; exact (blk_cell hg 0).trans rfl
  | 1, hj => simp at hj; subst hj; exact (blk_cell hg 1).trans rfl
theorem reckon_sum (F : Int × Int) (a b : Int) (w : World) (ha : wd a = true) (hb : wd b = true) (H : ∀ w, Calls Try.prog 45 #[.agg #[.int .i64 a, .int .i64 b]] w (PairPost F w)) :
    Calls Try.prog 40 #[.agg #[.int .i64 a, .int .i64 b], .func (.func 45) #[] #[]] w (PairPost F w) := by
  have hall : Aside0 (allw [a, b] = true) := ⟨by simp [allw, ha, hb]⟩
  have HH := Aside0.mk H
  clear H ha hb
  go_enter Try.func40, Try.ntmps40
  go_wp2_with fail
  refine (all_calls [a, b] _ _ _ (pair_row _ a b (w.heap.size + 1) (by have := blk_new (w.alloc (.cells #[.int .i64 a, .int .i64 b] 50)) (.cells #[.int .i64 a, .int .i64 b] 2); simpa using this))).mono ?_
  rintro e w1 ⟨rfl, rfl⟩
  rw [hall.out]
  go_wp2_with fail
  refine (HH.out _).mono ?_
  rintro e w1 ⟨rfl, hB⟩
  have HB := Aside0.mk hB
  clear hB
  go_wp2
  go_ret2
  exact ⟨rfl, (below_alloc (below_alloc (Below.refl _ _) _) _).trans (HB.out.mono (by simp; omega))⟩
theorem reckon_sum_no (a b : Int) (w : World) (h : (wd a && wd b) = false) :
    Calls Try.prog 40 #[.agg #[.int .i64 a, .int .i64 b], .func (.func 45) #[] #[]] w (PairPost (0, 1) w) := by
  have hall : Aside0 (allw [a, b] = false) := ⟨by simp only [allw, Bool.and_true]; exact h⟩
  clear h
  go_enter Try.func40, Try.ntmps40
  go_wp2_with fail
  refine (all_calls [a, b] _ _ _ (pair_row _ a b (w.heap.size + 1) (by have := blk_new (w.alloc (.cells #[.int .i64 a, .int .i64 b] 50)) (.cells #[.int .i64 a, .int .i64 b] 2); simpa using this))).mono ?_
  rintro e w1 ⟨rfl, rfl⟩
  rw [hall.out]
  go_wp2
  go_ret2
  exact ⟨rfl, below_alloc (below_alloc (Below.refl _ _) _) _⟩
theorem reckon_less (F : Int × Int) (a b : Int) (w : World) (ha : wd a = true) (hb : wd b = true) (H : ∀ w, Calls Try.prog 46 #[.agg #[.int .i64 a, .int .i64 b]] w (PairPost F w)) :
    Calls Try.prog 40 #[.agg #[.int .i64 a, .int .i64 b], .func (.func 46) #[] #[]] w (PairPost F w) := by
  have hall : Aside0 (allw [a, b] = true) := ⟨by simp [allw, ha, hb]⟩
  have HH := Aside0.mk H
  clear H ha hb
  go_enter Try.func40, Try.ntmps40
  go_wp2_with fail
  refine (all_calls [a, b] _ _ _ (pair_row _ a b (w.heap.size + 1) (by have := blk_new (w.alloc (.cells #[.int .i64 a, .int .i64 b] 50)) (.cells #[.int .i64 a, .int .i64 b] 2); simpa using this))).mono ?_
  rintro e w1 ⟨rfl, rfl⟩
  rw [hall.out]
  go_wp2_with fail
  refine (HH.out _).mono ?_
  rintro e w1 ⟨rfl, hB⟩
  have HB := Aside0.mk hB
  clear hB
  go_wp2
  go_ret2
  exact ⟨rfl, (below_alloc (below_alloc (Below.refl _ _) _) _).trans (HB.out.mono (by simp; omega))⟩
theorem reckon_less_no (a b : Int) (w : World) (h : (wd a && wd b) = false) :
    Calls Try.prog 40 #[.agg #[.int .i64 a, .int .i64 b], .func (.func 46) #[] #[]] w (PairPost (0, 1) w) := by
  have hall : Aside0 (allw [a, b] = false) := ⟨by simp only [allw, Bool.and_true]; exact h⟩
  clear h
  go_enter Try.func40, Try.ntmps40
  go_wp2_with fail
  refine (all_calls [a, b] _ _ _ (pair_row _ a b (w.heap.size + 1) (by have := blk_new (w.alloc (.cells #[.int .i64 a, .int .i64 b] 50)) (.cells #[.int .i64 a, .int .i64 b] 2); simpa using this))).mono ?_
  rintro e w1 ⟨rfl, rfl⟩
  rw [hall.out]
  go_wp2
  go_ret2
  exact ⟨rfl, below_alloc (below_alloc (Below.refl _ _) _) _⟩
theorem add_yes (a b : Int) (w : World) (ha : wd a = true) (hb : wd b = true) : Calls Try.prog 20 #[.int .i64 a, .int .i64 b] w (PairPost (wordR (a + b)) w) := by
  go_enter Try.func20, Try.ntmps20
  go_wp2_with fail
  refine (reckon_sum _ _ _ _ ha hb (fun w => sum_calls _ _ w ha hb)).mono ?_
  rintro e w1 ⟨rfl, hB⟩
  have HB := Aside0.mk hB
  clear hB
  go_wp2
  go_ret2
  exact ⟨rfl, HB.out⟩
theorem add_no (a b : Int) (w : World) (h : (wd a && wd b) = false) : Calls Try.prog 20 #[.int .i64 a, .int .i64 b] w (PairPost (0, 1) w) := by
  go_enter Try.func20, Try.ntmps20
  go_wp2_with fail
  refine (reckon_sum_no _ _ _ h).mono ?_
  rintro e w1 ⟨rfl, hB⟩
  have HB := Aside0.mk hB
  clear hB
  go_wp2
  go_ret2
  exact ⟨rfl, HB.out⟩
theorem sub_yes (a b : Int) (w : World) (ha : wd a = true) (hb : wd b = true) : Calls Try.prog 21 #[.int .i64 a, .int .i64 b] w (PairPost (wordR (a - b)) w) := by
  go_enter Try.func21, Try.ntmps21
  go_wp2_with fail
  refine (reckon_less _ _ _ _ ha hb (fun w => less_calls _ _ w ha hb)).mono ?_
  rintro e w1 ⟨rfl, hB⟩
  have HB := Aside0.mk hB
  clear hB
  go_wp2
  go_ret2
  exact ⟨rfl, HB.out⟩
theorem sub_no (a b : Int) (w : World) (h : (wd a && wd b) = false) : Calls Try.prog 21 #[.int .i64 a, .int .i64 b] w (PairPost (0, 1) w) := by
  go_enter Try.func21, Try.ntmps21
  go_wp2_with fail
  refine (reckon_less_no _ _ _ h).mono ?_
  rintro e w1 ⟨rfl, hB⟩
  have HB := Aside0.mk hB
  clear hB
  go_wp2
  go_ret2
  exact ⟨rfl, HB.out⟩
theorem neg_yes (a : Int) (w : World) (ha : wd a = true) : Calls Try.prog 29 #[.int .i64 a] w (PairPost (wordR (-a)) w) := by
  have hz : wd 0 = true := by decide
  go_enter Try.func29, Try.ntmps29
  go_wp2_with fail
  refine (reckon_less _ _ _ _ hz ha (fun w => by have := less_calls 0 a w hz ha; rwa [Int.zero_sub] at this)).mono ?_
  rintro e w1 ⟨rfl, hB⟩
  have HB := Aside0.mk hB
  clear hB
  go_wp2
  go_ret2
  exact ⟨rfl, HB.out⟩
theorem neg_no (a : Int) (w : World) (h : wd a = false) : Calls Try.prog 29 #[.int .i64 a] w (PairPost (0, 1) w) := by
  go_enter Try.func29, Try.ntmps29
  go_wp2_with fail
  refine (reckon_less_no _ _ _ (by rw [h]; rfl)).mono ?_
  rintro e w1 ⟨rfl, hB⟩
  have HB := Aside0.mk hB
  clear hB
  go_wp2
  go_ret2
  exact ⟨rfl, HB.out⟩
end
end Go.Proofs.Ythokdnheijnmmaa.FxWalk
