/- The law MotionWindows over numbers and lists. -/
import Derived.Test.YtcgknibjbnijmaaGMotionWindows
import Derived.Test.YtcgknibjbnijmaaPMotionBase
set_option linter.unusedVariables false
namespace Go.Proofs.Ytcgknibjbnijmaa.motionWindows
open Go.RowKit Go.Proofs.Ytcgknibjbnijmaa.QMotion Go.Proofs.YtcgknibjbnijmaaW.PrintWords Go.Proofs.YtcgknibjbnijmaaW.PrintMore Go.Proofs.YtcgknibjbnijmaaW.Aid Go.Proofs.Ytcgknibjbnijmaa.PMotion

theorem wakes_ev : Ev (fun k => gimballaw21_wakes.f k) true := Ev.of gimballaw21_wakes.mono (k := 30) (by decide +kernel)

/-- The last bits of a row of windows, the newest first. -/
def code : List Bool → Int
  | [] => 0
  | b :: r => (2 * code r + if b = true then 1 else 0) % 256
theorem code_bd : ∀ r, 0 ≤ code r ∧ code r < 256
  | [] => by simp [code]
  | b :: r => by simp only [code]; exact ⟨Int.emod_nonneg _ (by omega), Int.emod_lt_of_pos _ (by omega)⟩
/-- How many of the first n moved. -/
def ct : Nat → List Bool → Int
  | 0, _ => 0
  | _ + 1, [] => 0
  | n + 1, b :: r => (if b = true then 1 else 0) + ct n r
theorem ct_bd : ∀ n r, 0 ≤ ct n r ∧ ct n r ≤ n
  | 0, _ => by simp [ct]
  | n + 1, [] => by simp only [ct]; omega
  | n + 1, b :: r => by
    have := ct_bd n r
    simp only [ct]
    split <;> omega
theorem cnt_low : ∀ j : Fin 256, ∀ n : Fin 8, cnt n.val ((j.val : Int) % 128) = cnt n.val (j.val : Int) := by decide +kernel
theorem cnt_zero : ∀ n, cnt n 0 = 0
  | 0 => rfl
  | n + 1 => by simp [cnt, cnt_zero n]
theorem cnt_code : ∀ (r : List Bool) (n : Nat), n ≤ 8 → cnt n (code r) = ct n r
  | [], n, _ => by cases n <;> simp [code, cnt_zero, ct]
  | b :: r, 0, _ => rfl
  | b :: r, n + 1, h => by
    have hb := code_bd r
    have ih := cnt_code r n (by omega)
    have low := cnt_low ⟨(code r).toNat, by omega⟩ ⟨n, by omega⟩
    have e : (((code r).toNat : Nat) : Int) = code r := by omega
    simp only [e] at low
    simp only [cnt, ct, code]
    have e1 : ((2 * code r + if b = true then (1 : Int) else 0) % 256) % 2 = if b = true then 1 else 0 := by split <;> omega
    have e2 : ((2 * code r + if b = true then (1 : Int) else 0) % 256) / 2 = code r % 128 := by split <;> omega
    rw [e1, e2, low, ih]

theorem rd_rev {pre rem : List Bool} {b : Bool} : rdOf false (pre ++ b :: rem).reverse (rem.length : Int) = b := by
  unfold rdOf
  rw [List.getD_eq_getElem?_getD]
  simp

section
variable (l : List S36)
/-- The count over the last eight windows. -/
theorem l2_ev (now : Int) (rl : List Bool) (told beg : Bool) (i : Int) (sh : Bool) (k0 : Int) (so : Bool) (o : Bool) (s mi ma mo : Int) (t : Bool) (hlen : rl.length ≤ 1000) (tot : Int) (ht0 : 0 ≤ tot)
    (hso : so = (decide (5 ≤ tot) && !told))
    (hn : Ev (fun k => gimballaw21_MotionWindows.l1 k l (wrap64 (now + 500)) rl.reverse (if 5 ≤ tot ∧ told = false then true else if tot = 0 then false else told) beg i sh (wrap64 (k0 + 1)) o s mi ma mo t) true) :
    ∀ (q : Nat) (pre rem : List Bool) (n : Int), rl = pre ++ rem → pre.length + q = 8 → 0 ≤ n → n ≤ pre.length → n + ct q rem = tot →
      Ev (fun k => gimballaw21_MotionWindows.l2 k l now rl.reverse told beg i sh k0 so n ((rem.length : Int) - 1) o s mi ma mo t) true := by
  have fin : ∀ j : Int, Ev (fun k => gimballaw21_MotionWindows.j7 k l now rl.reverse told beg i sh k0 so tot j false o s mi ma mo t) true := by
    intro j
    refine Ev.shift ?_
    simp only [gimballaw21_MotionWindows.j7, Bool.false_eq_true, if_false]
    subst hso
    by_cases h5 : 5 ≤ tot
    · have h0 : tot > 0 := by omega
      have h00 : ¬ tot = 0 := by omega
      cases told <;> simpa [h5, h0, h00] using hn
    · by_cases h0 : tot > 0
      · have h00 : ¬ tot = 0 := by omega
        cases told <;> simpa [h5, h0, h00] using hn
      · have h00 : tot = 0 := by omega
        subst h00
        cases told <;> simpa using hn
  have wl : wrap64 ((rl.reverse.length : Int) - 8) = (rl.length : Int) - 8 := by rw [List.length_reverse]; exact wrap64_id (by omega) (by omega)
  intro q
  induction q with
  | zero =>
    intro pre rem n hr hq h0 h8 ht
    simp only [ct, Int.add_zero] at ht
    subst ht
    have hrl : rl.length = pre.length + rem.length := by rw [hr]; simp
    refine Ev.shift ?_
    simp only [gimballaw21_MotionWindows.l2, wl]
    by_cases hj : (rem.length : Int) - 1 ≥ 0
    · simp only [hj, if_true, decide_eq_false (p := (rem.length : Int) - 1 ≥ (rl.length : Int) - 8) (by omega)]
      exact fin _
    · simp only [hj, if_false]
      exact fin _
  | succ q ih =>
    intro pre rem n hr hq h0 h8 ht
    have hrl : rl.length = pre.length + rem.length := by rw [hr]; simp
    refine Ev.shift ?_
    simp only [gimballaw21_MotionWindows.l2, wl]
    cases rem with
    | nil =>
      simp only [ct, Int.add_zero] at ht
      subst ht
      have hj : ¬ (([] : List Bool).length : Int) - 1 ≥ 0 := by simp
      simp only [hj, if_false]
      exact fin _
    | cons b rem =>
      have e : ((b :: rem).length : Int) - 1 = rem.length := by simp
      have hl : (b :: rem).length = rem.length + 1 := rfl
      rw [e]
      have hj : (rem.length : Int) ≥ 0 := by omega
      simp only [hj, if_true, decide_eq_true (p := (rem.length : Int) ≥ (rl.length : Int) - 8) (by omega)]
      refine Ev.shift ?_
      have h1 : (0 : Int) ≤ (rem.length : Int) := by omega
      have h2 : (rem.length : Int) < (rl.reverse.length : Int) := by rw [List.length_reverse]; omega
      have h3 : rdOf false rl.reverse (rem.length : Int) = b := by rw [hr]; exact rd_rev
      simp only [gimballaw21_MotionWindows.j7, if_true, h1, h2, h3]
      have hc := ct_bd q rem
      rw [wrap64_id (x := n + 1) (by omega) (by omega), wrap64_id (x := (rem.length : Int) - 1) (by omega) (by omega)]
      simp only [ct] at ht
      cases b with
      | true =>
        simp only [if_true] at ht ⊢
        exact ih (pre ++ [true]) rem (n + 1) (by rw [hr]; simp) (by simp; omega) (by omega) (by simp; omega) (by omega)
      | false =>
        simp only [Bool.false_eq_true, if_false] at ht ⊢
        exact ih (pre ++ [false]) rem n (by rw [hr]; simp) (by simp; omega) (by omega) (by simp; omega) (by omega)

/-- The state ahead of a window: 'rl' are the windows that ended, the newest first. -/
def Inv (i now : Int) (rl : List Bool) (told beg : Bool) (o : Bool) (s mi ma mo : Int) (t : Bool) : Prop :=
  now = 1000 * i ∧ (rl.length : Int) = i ∧ t = told ∧
  ((i = 0 ∧ rl = [] ∧ beg = false ∧ o = false ∧ s = 0 ∧ mi = 0 ∧ ma = 0 ∧ mo = 0 ∧ told = false) ∨
    ∃ b r, rl = b :: r ∧ beg = true ∧ o = true ∧ s = 1000 * (i - 1) ∧ mi = 9806650 ∧ ma = (if b = true then 19613300 else 9806650) ∧ mo = code r)

theorem ok_of {o : Bool} {s mi ma mo : Int} {t : Bool} (h : o = true) (hs : 0 ≤ s) (hs' : s ≤ 1000000) (h1 : 0 ≤ mi) (h2 : mi ≤ ma) (h3 : ma ≤ 100000000) (h4 : 0 ≤ mo) (h5 : mo ≤ 255) : okB o s mi ma mo t = true := by
  subst h
  simp only [okB, tm, gd, Bool.and_eq_true, decide_eq_true_eq, Bool.true_or, and_true]
  omega

/-- The second sample of a window. -/
theorem second (i now : Int) (rl : List Bool) (told beg sh : Bool) (mo : Int) (h0 : 0 ≤ i) (hi : i < 100) (hnow : now = 1000 * i) (hl : (rl.length : Int) = i) (hmo : mo = code rl) (d : Bool)
    (next : Ev (fun k => gimballaw21_MotionWindows.l0 k l (1000 * (i + 1)) (sh :: rl).reverse told true (i + 1) true now 9806650 (if sh = true then 19613300 else 9806650) mo told) true) :
    Ev (fun k => gimballaw21_MotionWindows.l1 k l (now + 500) rl.reverse told beg i sh 1 true now 9806650 9806650 mo told) true := by
  have hc := code_bd rl
  have hok : okB true now 9806650 9806650 mo told = true := ok_of rfl (by omega) (by omega) (by omega) (by omega) (by omega) (by omega) (by omega)
  have w1 : wrap64 (1 + 1) = 2 := wrap64_id (by omega) (by omega)
  have w2 : wrap64 (now + 500 + 500) = 1000 * (i + 1) := by rw [wrap64_id (by omega) (by omega)]; omega
  have w3 : wrap64 (i + 1) = i + 1 := wrap64_id (by omega) (by omega)
  have htm : tm (now + 500) = true := by rw [tm_iff]; omega
  have last : ∀ ma : Int, Ev (fun k => gimballaw21_MotionWindows.l0 k l (1000 * (i + 1)) (sh :: rl).reverse told true (i + 1) true now 9806650 ma mo told) true →
      Ev (fun k => gimballaw21_MotionWindows.l1 k l (1000 * (i + 1)) rl.reverse told beg i sh 2 true now 9806650 ma mo told) true := by
    intro ma h
    refine Ev.shift ?_
    have h1 : ¬ (2 : Int) < 2 := by omega
    have h2 : rl.reverse.length < 140737488355328 := by rw [List.length_reverse]; omega
    simp only [gimballaw21_MotionWindows.l1, h1, if_false, h2, if_true, w3]
    simpa using h
  have go : ∀ m : Int, (m = if sh = true then 19613300 else 9806650) → Ev (fun k => gimballaw21_MotionWindows.j4 k l (now + 500) rl.reverse told beg i sh 1 m true now 9806650 9806650 mo told) true := by
    intro m hm
    have hm2 : m = 9806650 ∨ m = 19613300 := by cases sh <;> simp at hm <;> omega
    have hgd : gd m = true := by rw [gd_iff]; omega
    have key := take_ok (m := m) (now := now + 500) hok (by omega) hgd htm (by omega)
    have e : takeR true now 9806650 9806650 mo told m (now + 500) = (true, now, 9806650, m, mo, told, false, 0) := by
      unfold takeR
      rw [if_pos rfl, if_pos (by omega)]
      have e1 : mn 9806650 m = 9806650 := by unfold mn; split <;> omega
      have e2 : mx 9806650 m = m := by unfold mx; split <;> omega
      rw [e1, e2]
    rw [e] at key
    refine Ev.shift ?_
    simp only [gimballaw21_MotionWindows.j4]
    refine Ev.bind key ?_
    have h1 : ¬ (1 : Int) = 0 := by omega
    simp only [gimballaw21_num.f, Option.bind_some, if_true, h1, if_false]
    refine Ev.shift ?_
    simp only [gimballaw21_MotionWindows.j5, Bool.false_eq_true, if_false, bne_self_eq_false, w1, w2]
    refine last m ?_
    rw [hm]
    exact next
  refine Ev.shift ?_
  have h1 : (1 : Int) < 2 := by omega
  simp only [gimballaw21_MotionWindows.l1, h1, if_true]
  cases sh with
  | true =>
    simp only [if_true, beq_self_eq_true]
    refine Ev.shift ?_
    simp only [gimballaw21_MotionWindows.j3, if_true]
    exact go _ rfl
  | false =>
    simp only [Bool.false_eq_true, if_false]
    refine Ev.shift ?_
    simp only [gimballaw21_MotionWindows.j3, Bool.false_eq_true, if_false]
    exact go _ rfl

theorem l0_ev (hn : l.length * 64 ≤ 140737488351232) (d : Nat) : ∀ (i now : Int) (rl : List Bool) (told beg : Bool) (o : Bool) (s mi ma mo : Int) (t : Bool), 0 ≤ i → (l.length : Int) - i ≤ d → i ≤ l.length → i ≤ 100 → Inv i now rl told beg o s mi ma mo t →
    Ev (fun k => gimballaw21_MotionWindows.l0 k l now rl.reverse told beg i o s mi ma mo t) true := by
  have fin : ∀ now rl told beg i o s mi ma mo t, Ev (fun k => gimballaw21_MotionWindows.j1 k l now rl told beg i false o s mi ma mo t) true := by
    intro now rl told beg i o s mi ma mo t
    refine Ev.shift ?_
    simp only [gimballaw21_MotionWindows.j1, Bool.false_eq_true, if_false]
    exact Ev.bind wakes_ev (Ev.pure fun _ => rfl)
  induction d with
  | zero =>
    intro i now rl told beg o s mi ma mo t h0 h1 h2 h5 hI
    refine Ev.shift ?_
    simp only [gimballaw21_MotionWindows.l0, if_neg (show ¬ i < (l.length : Int) by omega)]
    exact fin _ _ _ _ _ _ _ _ _ _ _
  | succ d ih =>
    intro i now rl told beg o s mi ma mo t h0 h1 h2 h5 hI
    refine Ev.shift ?_
    simp only [gimballaw21_MotionWindows.l0]
    by_cases hl : i < (l.length : Int)
    · simp only [hl, if_true]
      by_cases hc : i < 100
      · rw [decide_eq_true hc]
        refine Ev.shift ?_
        simp only [gimballaw21_MotionWindows.j1, if_true, h0, hl]
        generalize rd_T36 l i = x
        obtain ⟨e1, b1, c1⟩ := within_of (a := x.f1) (n := 3) (by omega) (by omega)
        have z1 : ¬ IntKind.u64.wrap 3 = 0 := by rw [u64_wrap]; omega
        simp only [gimballaw0_Within.f, z1, if_false, Option.bind_some, e1]
        generalize decide (x.f1 % 18446744073709551616 % 3 > 0) = sh
        obtain ⟨hnow, hrl, rfl, hI⟩ := hI
        have w1 : wrap64 (0 + 1) = 1 := wrap64_id (by omega) (by omega)
        have w2 : wrap64 (now + 500) = now + 500 := wrap64_id (by omega) (by omega)
        have next : ∀ t' : Bool, Ev (fun k => gimballaw21_MotionWindows.l0 k l (1000 * (i + 1)) (sh :: rl).reverse t' true (i + 1) true now 9806650 (if sh = true then 19613300 else 9806650) (code rl) t') true := by
          intro t'
          exact ih (i + 1) (1000 * (i + 1)) (sh :: rl) t' true true now 9806650 _ (code rl) t' (by omega) (by omega) (by omega) (by omega)
            ⟨rfl, by simp; omega, rfl, .inr ⟨sh, rl, rfl, rfl, rfl, by omega, rfl, rfl, rfl⟩⟩
        have sec := fun t' beg => second l i now rl t' beg sh (code rl) h0 hc hnow hrl rfl true (next t')
        have hgd : gd 9806650 = true := by decide
        have htm : tm now = true := by rw [tm_iff]; omega
        -- the first sample
        have first : ∀ (t' so : Bool), Ev (fun k => motion_Take.f k o s mi ma mo t 9806650 now) (true, now, 9806650, 9806650, code rl, t', so, 0) →
            (beg = false → so = false ∧ t' = t) → (beg = true → so = (decide (5 ≤ ct 8 rl) && !t) ∧ t' = if 5 ≤ ct 8 rl ∧ t = false then true else if ct 8 rl = 0 then false else t) →
            Ev (fun k => gimballaw21_MotionWindows.l1 k l now rl.reverse t beg i sh 0 o s mi ma mo t) true := by
          intro t' so key hb hb'
          have j4 : Ev (fun k => gimballaw21_MotionWindows.j4 k l now rl.reverse t beg i sh 0 9806650 o s mi ma mo t) true := by
            refine Ev.shift ?_
            simp only [gimballaw21_MotionWindows.j4]
            refine Ev.bind key ?_
            simp only [gimballaw21_num.f, Option.bind_some, if_true]
            refine Ev.shift ?_
            simp only [gimballaw21_MotionWindows.j5]
            cases beg with
            | false =>
              obtain ⟨rfl, rfl⟩ := hb rfl
              simp only [Bool.false_eq_true, if_false, bne_self_eq_false, w1, w2]
              exact sec _ _
            | true =>
              obtain ⟨rfl, ht'⟩ := hb' rfl
              simp only [if_true]
              have hcb := ct_bd 8 rl
              rw [wrap64_id (x := (rl.reverse.length : Int) - 1) (by omega) (by rw [List.length_reverse]; omega), List.length_reverse]
              refine l2_ev l now rl t true i sh 0 _ true now 9806650 9806650 (code rl) t' (by omega) (ct 8 rl) (by omega) rfl ?_ 8 [] rl 0 rfl rfl (by omega) (by simp) (by omega)
              rw [← ht', w1, w2]
              exact sec _ _
          refine Ev.shift ?_
          have h1 : (0 : Int) < 2 := by omega
          simp only [gimballaw21_MotionWindows.l1, h1, if_true]
          cases sh with
          | true =>
            have e : ((0 : Int) == 1) = false := by decide
            simp only [if_true, e]
            refine Ev.shift ?_
            simp only [gimballaw21_MotionWindows.j3, Bool.false_eq_true, if_false]
            exact j4
          | false =>
            simp only [Bool.false_eq_true, if_false]
            refine Ev.shift ?_
            simp only [gimballaw21_MotionWindows.j3, Bool.false_eq_true, if_false]
            exact j4
        rcases hI with ⟨_, rfl, rfl, rfl, rfl, rfl, rfl, rfl, rfl⟩ | ⟨b, r, rfl, rfl, rfl, rfl, rfl, rfl, rfl⟩
        · have hok : okB false 0 0 0 0 false = true := by decide
          have key := take_ok (m := 9806650) (now := now) hok (by omega) hgd htm (by omega)
          exact first false false key (fun _ => ⟨rfl, rfl⟩) (fun h => by cases h)
        · have hcr := code_bd r
          have hok : okB true (1000 * (i - 1)) 9806650 (if b = true then 19613300 else 9806650) (code r) t = true := by
            have : 1 ≤ i := by have := hrl; simp at this; omega
            exact ok_of rfl (by omega) (by omega) (by omega) (by split <;> omega) (by split <;> omega) (by omega) (by omega)
          have key := take_ok (m := 9806650) (now := now) hok (by omega) hgd htm (by omega)
          have e : takeR true (1000 * (i - 1)) 9806650 (if b = true then 19613300 else 9806650) (code r) t 9806650 now =
              (true, now, 9806650, 9806650, code (b :: r), if 5 ≤ ct 8 (b :: r) ∧ t = false then true else if ct 8 (b :: r) = 0 then false else t, decide (5 ≤ ct 8 (b :: r)) && !t, 0) := by
            unfold takeR
            rw [if_pos rfl, if_neg (by omega)]
            have e1 : (if (if b = true then (19613300 : Int) else 9806650) - 9806650 > 980665 then (1 : Int) else 0) = if b = true then 1 else 0 := by cases b <;> simp
            have e2 : (2 * code r + if b = true then (1 : Int) else 0) % 256 = code (b :: r) := rfl
            simp only [e1, e2, cnt_code (b :: r) 8 (by omega)]
          rw [e] at key
          exact first _ _ key (fun h => by cases h) (fun _ => ⟨rfl, rfl⟩)
      · rw [decide_eq_false hc]
        exact fin _ _ _ _ _ _ _ _ _ _ _
    · simp only [hl, if_false]
      exact fin _ _ _ _ _ _ _ _ _ _ _
end

theorem pure : Pure := by
  intro l h
  exact Ev.rounds (l0_ev l h.1 l.length 0 0 [] false false false 0 0 0 0 false (by omega) (by omega) (by omega) (by omega) ⟨rfl, rfl, rfl, .inl ⟨rfl, rfl, rfl, rfl, rfl, rfl, rfl, rfl, rfl⟩⟩)
end Go.Proofs.Ytcgknibjbnijmaa.motionWindows
