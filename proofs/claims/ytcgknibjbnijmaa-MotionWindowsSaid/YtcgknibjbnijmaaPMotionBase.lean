/- What the program's and the reference's motion steps answer, over numbers: the two agree on each state that may be, and the program refuses the others. -/
import Derived.Test.YtcgknibjbnijmaaQMotionx3
import Derived.Test.YtcgknibjbnijmaaQMotionx5
import Derived.Test.YtcgknibjbnijmaaQMotionx6
import Derived.Test.YtcgknibjbnijmaaOAid
namespace Go.Proofs.Ytcgknibjbnijmaa.PMotion
open Go.RowKit Go.Proofs.Ytcgknibjbnijmaa.QMotion Go.Proofs.YtcgknibjbnijmaaW.PrintWords Go.Proofs.YtcgknibjbnijmaaW.PrintMore Go.Proofs.YtcgknibjbnijmaaW.Aid

def tm (x : Int) : Bool := decide (0 ≤ x) && decide (x ≤ 1099511627776)
def gd (a : Int) : Bool := decide (-35184372088832 < a) && decide (a < 35184372088832)
theorem tm_iff {x : Int} : tm x = true ↔ 0 ≤ x ∧ x ≤ 1099511627776 := by simp [tm]
theorem gd_iff {x : Int} : gd x = true ↔ -35184372088832 < x ∧ x < 35184372088832 := by simp [gd]
theorem time_f (x : Int) : step_Time.f x = some (tm x) := by
  unfold step_Time.f tm
  by_cases h : 0 ≤ x
  · rw [if_pos h, decide_eq_true h]; rfl
  · rw [if_neg h, decide_eq_false h]; rfl
theorem rtime_f (x : Int) : gimbalref0_Time.f x = some (tm x) := time_f x
theorem good_f (x : Int) : fx_Good.f x = some (gd x) := by
  unfold fx_Good.f gd
  by_cases h : -35184372088832 < x
  · rw [if_pos h, decide_eq_true h]; rfl
  · rw [if_neg h, decide_eq_false h]; rfl
theorem may_f (x : Int) : gimbalref1_May.f x = some (gd x) := good_f x
theorem mag_f (x : Int) : gimbalref15_Mag.f x = some (decide (0 ≤ x) && gd x) := by
  unfold gimbalref15_Mag.f
  by_cases h : 0 ≤ x
  · rw [if_pos h, decide_eq_true h, may_f]; rfl
  · rw [if_neg h, decide_eq_false h]; rfl
theorem all2 (a b : Int) : Ev (fun k => fx_All.f k [a, b]) (gd a && gd b) := by
  unfold fx_All.f
  refine Ev.shift ?_
  simp only [fx_All.l0, List.length_cons, List.length_nil, good_f, Option.bind_some]
  have w1 : wrap64 (0 + 1) = 1 := wrap64_id (by omega) (by omega)
  have w2 : wrap64 (1 + 1) = 2 := wrap64_id (by omega) (by omega)
  have r0 : rd [a, b] 0 = a := rfl
  have r1 : rd [a, b] 1 = b := rfl
  simp only [w1, r0]
  cases gd a with
  | false => exact Ev.pure fun k => rfl
  | true =>
    simp only [if_true, Bool.true_and]
    refine Ev.shift ?_
    simp only [fx_All.l0, List.length_cons, List.length_nil, good_f, Option.bind_some, w2, r1]
    cases gd b with
    | false => exact Ev.pure fun k => rfl
    | true =>
      refine Ev.shift ?_
      simp only [fx_All.l0, List.length_cons, List.length_nil, if_true]
      exact Ev.pure fun k => rfl

/-- How many of the n lowest bits are 1. -/
def cnt : Nat → Int → Int
  | 0, _ => 0
  | n + 1, x => x % 2 + cnt n (x / 2)
theorem cnt_bd : ∀ n x, 0 ≤ cnt n x ∧ cnt n x ≤ n
  | 0, _ => by simp [cnt]
  | n + 1, x => by
    have := cnt_bd n (x / 2)
    simp only [cnt]
    omega
theorem ones_all : ∀ j : Fin 256, bits_OnesCount8.f (j.val : Int) = some (cnt 8 (j.val : Int)) := by decide +kernel
theorem ones_f {x : Int} (h0 : 0 ≤ x) (h : x < 256) : bits_OnesCount8.f x = some (cnt 8 x) := by
  have := ones_all ⟨x.toNat, by omega⟩
  simpa [Int.toNat_of_nonneg h0] using this

/-- A state that may be. -/
def okB (o : Bool) (s mi ma mo : Int) (t : Bool) : Bool :=
  tm s && (gd mi && gd ma && (decide (0 ≤ mi) && (decide (mi ≤ ma) && (decide (0 ≤ mo) && (decide (mo ≤ 255) && (o || (!o && (s == 0 && (mi == 0 && (ma == 0 && (mo == 0 && !t)))))))))))
theorem ite_dec {α : Type} {c : Prop} [Decidable c] (x y : α) : (if c then x else y) = (if decide c = true then x else y) := by
  by_cases h : c <;> simp [h]
theorem goodm_ev (o : Bool) (s mi ma mo : Int) (t : Bool) : Ev (fun k => motion_good.f k o s mi ma mo t) (okB o s mi ma mo t) := by
  unfold motion_good.f okB
  simp only [time_f, Option.bind_some]
  cases tm s with
  | false => exact Ev.pure fun k => rfl
  | true =>
    simp only [if_true, Bool.true_and]
    refine Ev.bind (all2 mi ma) ?_
    cases (gd mi && gd ma) with
    | false => exact Ev.pure fun k => rfl
    | true =>
      refine Ev.pure fun k => ?_
      simp only [if_true, Bool.true_and, ge_iff_le]
      by_cases h1 : 0 ≤ mi <;> by_cases h2 : mi ≤ ma <;> by_cases h3 : 0 ≤ mo <;> by_cases h4 : mo ≤ 255 <;> cases o <;> simp [h1, h2, h3, h4]
theorem rmay_ev (o : Bool) (s mi ma mo : Int) (t : Bool) : Ev (fun k => gimbalref15_MayMotion.f k o s mi ma mo t) (okB o s mi ma mo t) := by
  have key : ∀ b : Bool, (b = !(o || (s == 0 && (mi == 0 && (ma == 0 && (mo == 0 && !t)))))) → Ev (fun k => gimbalref15_MayMotion.j0 k b o s mi ma mo t) (okB o s mi ma mo t) := by
    intro b hb
    refine Ev.shift ?_
    simp only [gimbalref15_MayMotion.j0, rtime_f, mag_f, Option.bind_some]
    refine Ev.pure fun k => ?_
    have e : (o || (!o && (s == 0 && (mi == 0 && (ma == 0 && (mo == 0 && !t)))))) = !b := by rw [hb]; cases o <;> simp
    unfold okB
    rw [e]
    cases b <;> simp only [ge_iff_le]
    · by_cases h1 : 0 ≤ mi <;> by_cases h2 : mi ≤ ma <;> by_cases h3 : 0 ≤ mo <;> by_cases h4 : mo ≤ 255 <;> by_cases h5 : 0 ≤ ma <;> cases tm s <;> cases gd mi <;> cases gd ma <;> simp [h1, h2, h3, h4, h5] <;> omega
    · simp
  unfold gimbalref15_MayMotion.f
  cases o with
  | true => exact key false (by simp)
  | false => exact key _ (by simp [Bool.not_and])

/-- What a step answers. -/
def takeR (o : Bool) (s mi ma mo : Int) (t : Bool) (m now : Int) : Bool × Int × Int × Int × Int × Bool × Bool × Int :=
  if o = true then
    if now - s < 1000 then (true, s, mn mi m, mx ma m, mo, t, false, 0)
    else
      let r := (2 * mo + if ma - mi > 980665 then 1 else 0) % 256
      (true, now, m, m, r, if 5 ≤ cnt 8 r ∧ t = false then true else if cnt 8 r = 0 then false else t, decide (5 ≤ cnt 8 r) && !t, 0)
  else (true, now, m, m, 0, false, false, 0)
theorem or_one : ∀ j : Fin 128, Go.bits .or .u8 (2 * (j.val : Int)) 1 = 2 * (j.val : Int) + 1 := by decide +kernel
theorem push_f (mo : Int) (b : Bool) : motion_row_uint8_push.f (mo % 256) b = some ((2 * mo + if b = true then 1 else 0) % 256) := by
  unfold motion_row_uint8_push.f
  have e : mo % 256 * 2 % 256 = 2 * (mo % 128) := by omega
  rw [e]
  cases b with
  | false => simp; omega
  | true =>
    simp only [if_true]
    have := or_one ⟨(mo % 128).toNat, by omega⟩
    have e2 : (((mo % 128).toNat : Nat) : Int) = mo % 128 := by omega
    simp only [e2] at this
    rw [this]
    congr 1
    omega
theorem take_ok {o : Bool} {s mi ma mo : Int} {t : Bool} {m now : Int} (h : okB o s mi ma mo t = true) (hm0 : 0 ≤ m) (hm : gd m = true) (hn : tm now = true) (hs : s ≤ now) :
    Ev (fun k => motion_Take.f k o s mi ma mo t m now) (takeR o s mi ma mo t m now) := by
  unfold motion_Take.f
  refine Ev.bind (goodm_ev o s mi ma mo t) ?_
  simp only [h, if_true, good_f, hm, Option.bind_some, time_f, hn]
  simp only [if_neg (show ¬ m < 0 by omega), decide_eq_false (p := now < s) (by omega)]
  refine Ev.shift ?_
  simp only [motion_Take.j0]
  simp [okB, tm, gd] at h
  simp [tm] at hn
  obtain ⟨⟨hs0, hs1⟩, ⟨⟨⟨a1, a2⟩, a3, a4⟩, hmi, hmm, hmo, hmo2, _⟩⟩ := h
  rw [wrap64_id (x := now - s) (by omega) (by omega), wrap64_id (x := ma - mi) (by omega) (by omega)]
  unfold takeR
  cases o with
  | false => exact Ev.pure fun k => rfl
  | true =>
    by_cases hw : now - s < 1000
    · refine Ev.pure fun k => ?_
      simp only [hw, if_true, Bool.false_eq_true, if_false]
    · have hr := Int.emod_nonneg (2 * mo + if ma - mi > 980665 then (1 : Int) else 0) (show (256 : Int) ≠ 0 by omega)
      have hr2 := Int.emod_lt_of_pos (2 * mo + if ma - mi > 980665 then (1 : Int) else 0) (show (0 : Int) < 256 by omega)
      have e1 : (if decide (ma - mi > 980665) = true then (1 : Int) else 0) = if ma - mi > 980665 then 1 else 0 := by simp
      have w2 : wrap64 ((2 * mo + if ma - mi > 980665 then (1 : Int) else 0) % 256) = (2 * mo + if ma - mi > 980665 then (1 : Int) else 0) % 256 := wrap64_id (by omega) (by omega)
      simp only [hw, if_true, Bool.false_eq_true, if_false, push_f, e1, Option.bind_some, ones_f hr hr2, w2, ge_iff_le]
      generalize (2 * mo + if ma - mi > 980665 then (1 : Int) else 0) % 256 = r at *
      have hc := cnt_bd 8 r
      by_cases h5 : 5 ≤ cnt 8 r
      · simp only [if_pos h5]
        refine Ev.shift ?_
        simp only [motion_Take.j1]
        refine Ev.pure fun k => ?_
        have h6 : ¬ cnt 8 r = 0 := by omega
        cases t <;> simp [h5, h6]
      · simp only [if_neg h5]
        refine Ev.shift ?_
        simp only [motion_Take.j1]
        refine Ev.pure fun k => ?_
        by_cases h6 : cnt 8 r = 0 <;> simp [h5, h6]
theorem take_bad {o : Bool} {s mi ma mo : Int} {t : Bool} {m now : Int} (h : (okB o s mi ma mo t && (decide (0 ≤ m) && gd m && (tm now && decide (s ≤ now)))) = false) :
    Ev (fun k => motion_Take.f k o s mi ma mo t m now) (false, 0, 0, 0, 0, false, false, 1) := by
  have key : Ev (fun k => motion_Take.j0 k m now false true o s mi ma mo t) (false, 0, 0, 0, 0, false, false, 1) := by
    refine Ev.shift ?_
    simp only [motion_Take.j0]
    exact Ev.pure fun k => rfl
  unfold motion_Take.f
  refine Ev.bind (goodm_ev o s mi ma mo t) ?_
  simp only [good_f, Option.bind_some, time_f]
  cases hk : okB o s mi ma mo t with
  | false => simpa using key
  | true =>
    simp only [if_true]
    cases hg : gd m with
    | false => simpa using key
    | true =>
      simp only [if_true]
      by_cases h0 : m < 0
      · simp only [h0, if_true]; exact key
      · simp only [h0, if_false]
        cases ht : tm now with
        | false => simpa using key
        | true =>
          simp only [if_true]
          rw [hk, hg, ht] at h
          simp at h
          rw [decide_eq_true (p := now < s) (by omega)]
          exact key
def fst7 (x : Bool × Int × Int × Int × Int × Bool × Bool × Int) : Bool × Int × Int × Int × Int × Bool × Bool := (x.1, x.2.1, x.2.2.1, x.2.2.2.1, x.2.2.2.2.1, x.2.2.2.2.2.1, x.2.2.2.2.2.2.1)
/-- The reference's count of bits, and what it answers behind it. -/
theorem rloop (s mi ma mo : Int) (t : Bool) : ∀ (n : Nat) (c x : Int), 0 ≤ x → x < 2 ^ n → n ≤ 8 → 0 ≤ c → c + n ≤ 8 →
    Ev (fun k => gimbalref15_Motion.l0 k c x true s mi ma mo t) (true, s, mi, ma, mo, if 5 ≤ c + cnt n x ∧ t = false then true else if c + cnt n x = 0 then false else t, decide (5 ≤ c + cnt n x) && !t)
  | 0, c, x, h0, h, _, hc, hc8 => by
    have : x = 0 := by simp at h; omega
    subst this
    refine Ev.shift ?_
    simp only [gimbalref15_Motion.l0, cnt, Int.add_zero]
    refine Ev.pure fun k => ?_
    by_cases h5 : 5 ≤ c
    · have h6 : 0 < c := by omega
      have h7 : ¬ c = 0 := by omega
      cases t <;> simp [h5, h6, h7]
    · by_cases h6 : c = 0
      · cases t <;> simp [h6]
      · have h7 : 0 < c := by omega
        cases t <;> simp [h5, h6, h7]
  | n + 1, c, x, h0, h, hn, hc, hc8 => by
    by_cases hx : x > 0
    · refine Ev.shift ?_
      simp only [gimbalref15_Motion.l0]
      simp only [hx, if_true]
      have h2 : x / 2 < 2 ^ n := by rw [Int.pow_succ] at h; omega
      have hp : (2 : Int) ^ (n + 1) ≤ 256 := by
        have : n = 0 ∨ n = 1 ∨ n = 2 ∨ n = 3 ∨ n = 4 ∨ n = 5 ∨ n = 6 ∨ n = 7 := by omega
        rcases this with r | r | r | r | r | r | r | r <;> subst r <;> decide
      have hb := cnt_bd n (x / 2)
      have := rloop s mi ma mo t n (c + x % 2) (x / 2) (by omega) h2 (by omega) (by omega) (by omega)
      simp only [tmod_pos h0, tdiv_pos h0, wrap64_id (x := c + x % 2) (by omega) (by omega), wrap64_id (x := x / 2) (by omega) (by omega)]
      have e : c + cnt (n + 1) x = c + x % 2 + cnt n (x / 2) := by simp only [cnt]; omega
      rw [e]
      exact this
    · have : x = 0 := by omega
      subst this
      have e : ∀ n, cnt n 0 = 0 := by
        intro n
        induction n with
        | zero => rfl
        | succ n ih => simp [cnt, ih]
      have := rloop s mi ma mo t 0 c 0 (by omega) (by simp) (by omega) hc (by omega)
      refine Ev.to this ?_
      simp only [e]
end Go.Proofs.Ytcgknibjbnijmaa.PMotion
