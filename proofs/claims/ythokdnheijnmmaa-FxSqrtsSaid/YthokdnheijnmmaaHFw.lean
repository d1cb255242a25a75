/- Package fx's reckoning with whole numbers, by the reckoner: Word, Told, over, reckon, Div, Ratio. -/
import Derived.Test.YthokdnheijnmmaaHWi3
import Derived.Test.YthokdnheijnmmaaHFx
set_option linter.unusedVariables false
set_option linter.unusedSimpArgs false
namespace Go.Proofs.Ythokdnheijnmmaa.Wh
open Go Go.RowKit Go.Proofs.YthokdnheijnmmaaW.PrintWords Go.Proofs.YthokdnheijnmmaaW.PrintMore Go.Proofs.YthokdnheijnmmaaW.Aid Go.Proofs.YthokdnheijnmmaaW.Big Go.Proofs.YthokdnheijnmmaaW.Sx Go.Proofs.Ythokdnheijnmmaa.BitsWalk Go.Proofs.Ythokdnheijnmmaa.Limbs Go.Proofs.Ythokdnheijnmmaa.Whole Go.Proofs.Ythokdnheijnmmaa.FxWalk Go.Proofs
abbrev tNN (z e : Int) : TV := .tup [(false, [.v (.int .i64 z)]), (false, [.v (.int .i64 e)])]
theorem nn_eq {z z' b b' : Int} (h : (z, b) = (z', b')) : (some (CR.tv (tNN z b)) : Option CR) = some (CR.tv (tNN z' b')) := by cases h; rfl
/-- A number as a word, if it is one. -/
def toldR (x : Int) : Int × Int := if wd x = true then (x, 0) else (0, 2)
theorem told0 {x : Int} (h : (!(smallI x).2) = true) : ((0 : Int), (2 : Int)) = ((toldR x).1, (toldR x).2) := by
  unfold smallI at h
  split at h
  · cases h
  · unfold toldR
    rw [if_neg]
    rw [wd_iff]; omega
theorem told1 {x : Int} (h : (!(smallI x).2) = false) : ((wordR (smallI x).1).1, (wordR (smallI x).1).2) = ((toldR x).1, (toldR x).2) := by
  unfold smallI at h ⊢
  split
  · rfl
  · rename_i hc; rw [if_neg hc] at h; cases h
def I64 (n : Int) : Prop := -9223372036854775808 ≤ n ∧ n < 9223372036854775808
/-- What Ratio answers. -/
def ratioR (n d : Int) : Int × Int := if d = 0 then (0, 3) else toldR (roundI n d)
def overR (a b : Int) : Int × Int := ratioR (a * 1073741824) b
/-- What Div answers. -/
def divR (a b : Int) : Int × Int := if (wd a && wd b) = true then overR a b else (0, 1)
theorem ratio0 {n d : Int} (h : (d == 0) = true) : ((0 : Int), (3 : Int)) = ((ratioR n d).1, (ratioR n d).2) := by
  unfold ratioR; rw [if_pos (beq_iff_eq.1 h)]
theorem ratio1 {n d : Int} (h : (d == 0) = false) : ((toldR (roundI n d)).1, (toldR (roundI n d)).2) = ((ratioR n d).1, (ratioR n d).2) := by
  unfold ratioR; rw [if_neg (beq_eq_false_iff_ne.1 h)]
theorem over0 {n d : Int} (h : (d == 0) = true) : ((0 : Int), (3 : Int)) = ((overR n d).1, (overR n d).2) := ratio0 h
theorem over1 {n d : Int} (h : (d == 0) = false) : ((toldR (roundI (n * 2 ^ Int.toNat 30) d)).1, (toldR (roundI (n * 2 ^ Int.toNat 30) d)).2) = ((overR n d).1, (overR n d).2) := ratio1 (n := n * 1073741824) h
theorem div0 {a b : Int} (h : (!(allw [a, b])) = true) : ((0 : Int), (1 : Int)) = ((divR a b).1, (divR a b).2) := by
  unfold divR
  rw [if_neg]
  intro hc
  simp only [allw, Bool.and_true] at h
  rw [hc] at h; cases h
theorem div1 {a b : Int} (h : (!(allw [a, b])) = false) : ((overR a b).1, (overR a b).2) = ((divR a b).1, (divR a b).2) := by
  unfold divR
  rw [if_pos]
  simpa [allw] using h
theorem all_2 {a b : Int} (h : (!(allw [a, b])) = false) : wd a = true ∧ wd b = true := by simpa [allw] using h
theorem ne_of {d : Int} (h : (d == 0) = false) : d ≠ 0 := beq_eq_false_iff_ne.1 h
theorem len_i64 {n : Int} (h : -9223372036854775808 ≤ n) (h' : n < 9223372036854775808) : Len0 n := by
  have := lm_one n (by omega); unfold Len0; omega
theorem len_i64' {n : Int} (h : -19342813113834066795298816 ≤ n) (h' : n < 19342813113834066795298816) : Len0 n := by
  have : (lm n).length ≤ 2 := limbs_len (by have : n.natAbs ≤ 19342813113834066795298816 := by omega
                                            exact Nat.lt_of_le_of_lt this (by decide))
  unfold Len0; omega
theorem abs_i64 {n : Int} (h : -9223372036854775808 ≤ n) (h' : n < 9223372036854775808) : n.natAbs < 18446744073709551616 := by omega
section
set_option maxRecDepth 100000
set_option maxHeartbeats 1000000
def cGood : Con Try.prog := conN 54 (fun _ => True) (fun v => .tv (tB (wd v))) ⟨_, Try.func54, by kernel_rfl, rfl⟩ (fun n w hl =>
  Ret.val ((good_calls n w).mono fun _ _ ⟨he, hw⟩ => ⟨he, by rw [← hw]; exact Below.refl _ _⟩))
def cWord : Con Try.prog := conN 78 (fun _ => True) (fun v => .tv (tNN (wordR v).1 (wordR v).2)) ⟨_, Try.func78, by kernel_rfl, rfl⟩ (fun n w hl =>
  (word_calls n w).mono fun _ _ ⟨he, hw⟩ => ⟨_, he, ⟨[_, _], rfl, .cons ⟨_, rfl, rfl⟩ (.cons ⟨_, rfl, rfl⟩ .nil)⟩, by rw [← hw]; exact Below.refl _ _⟩)
def cTold : Con Try.prog := con1 47 (fun x => True) (fun x => .tv (tNN (toldR x).1 (toldR x).2)) ⟨_, Try.func47, by kernel_rfl, rfl⟩ (fun x A c w hl hr => by
  refine fn_ret (cxOk Try.prog ints_ok [] [cSmall, cWord]) follows Try.func47 rfl 100 _ rfl (by simp) ?_ (args1 hr)
  repeat' first
    | exact trivial
    | (refine And.intro (show regChk _ _ _ _ _ = true from by kernel_rfl) (And.intro ?_ ?_))
    | (refine And.intro (fun hb => ?_) (fun hb' => ?_))
    | refine And.intro ?_ ?_
    | intro _
  all_goals first
    | (show (_ : Int) = (_ : Int); rfl)
    | (show some (CR.tv (tNN _ _)) = some (CR.tv (tNN _ _)); first | exact nn_eq (told0 (by assumption)) | exact nn_eq (told1 (by assumption))))
def cRatio : Con Try.prog := conNN 22 (fun n d => I64 n ∧ I64 d) (fun n d => .tv (tNN (ratioR n d).1 (ratioR n d).2)) ⟨_, Try.func22, by kernel_rfl, rfl⟩ (fun n d w hl => by
  obtain ⟨⟨n1, n2⟩, d1, d2⟩ := hl
  refine fn_ret (cxOk Try.prog ints_ok [] [cTold, cRound, cFrom]) follows Try.func22 rfl 100 _ rfl (by simp) ?_ (xs := [tN .i64 n, tN .i64 d]) (.cons rfl (.cons rfl .nil))
  repeat' first
    | exact trivial
    | (refine And.intro (show regChk _ _ _ _ _ = true from by kernel_rfl) (And.intro ?_ ?_))
    | (refine And.intro (fun hb => ?_) (fun hb' => ?_))
    | refine And.intro ?_ ?_
  all_goals first
    | (show Len0 _; exact len_i64 n1 n2)
    | exact n1
    | exact n2
    | exact d1
    | exact d2
    | (show (_ : Int) = (_ : Int); rfl)
    | (show some (CR.tv (tNN _ _)) = some (CR.tv (tNN _ _)); first | exact nn_eq (ratio0 (by assumption)) | exact nn_eq (ratio1 (by assumption)))
    | exact ne_of (by assumption)
    | exact abs_i64 d1 d2)
/-- A row of numbers of int64's kind. -/
def intsOf : List A0 → Option (List Int)
  | [] => some []
  | .v (.int .i64 n) :: r => match intsOf r with
    | some l => some (n :: l)
    | none => none
  | _ :: _ => none
theorem intsOf_get : ∀ {cs : List A0} {l : List Int}, intsOf cs = some l → cs = l.map fun n => A0.v (.int .i64 n)
  | [], l, h => by cases h; rfl
  | c :: r, l, h => by
    unfold intsOf at h
    split at h
    · rename_i e; cases e
    · rename_i n r' e
      cases e
      split at h
      · rename_i l' h'; cases h; rw [intsOf_get h']; rfl
      · cases h
    · cases h
theorem row_ints {w : World} {n : Nat} {cs : List A0} {l : List Int} {u : Value} {β : Nat → Nat} {b : Nat} (h : (TV.row n cs).reads β b w u) (hi : intsOf cs = some l) (hn : n = cs.length) (hs : n ≤ 1000) : ∃ A c, u = .slice A l.length c ∧ Kd.C (Kd.int .i64) w A l.length l := by
  obtain ⟨A, c, rfl, hc, hh⟩ := h
  have e := intsOf_get hi
  have hl : cs.length = l.length := by rw [e]; simp
  refine ⟨A, c, by rw [hn, hl], rfl, by omega, fun h0 => ?_⟩
  obtain ⟨ad, rfl, _, hcs⟩ := hh (by omega)
  refine ⟨ad, rfl, fun j p hj => ⟨[.int .i64 p], rfl, rfl, fun i u hu => ?_⟩⟩
  have hi0 : i = 0 := by
    cases i with
    | zero => rfl
    | succ i => simp at hu
  subst hi0
  simp at hu
  subst hu
  obtain ⟨x, hx, hr⟩ := hcs j (.v (.int .i64 p)) (by rw [e, List.getElem?_map, hj]; rfl)
  rw [show x = _ from hr] at hx
  rw [show j * (Kd.int .i64).sz + 0 = j from by show j * 1 + 0 = _; omega]
  exact hx
def cAll : Con Try.prog where
  f := 44
  sem := fun xs => match xs with
    | [.row n cs] => match intsOf cs with
      | some l => some (n = cs.length ∧ n ≤ 1000, .tv (tB (allw l)))
      | none => none
    | _ => none
  ok := by
    intro xs p r' h hp
    refine ⟨⟨_, Try.func44, by kernel_rfl, rfl⟩, fun us w ha => ?_⟩
    split at h
    · rename_i n cs
      split at h
      · rename_i l hi
        cases h
        obtain ⟨u, rfl, h1⟩ := all2_1 ha
        obtain ⟨A, c, rfl, hC⟩ := row_ints h1 hi hp.1 hp.2
        exact Ret.val ((all_calls l A c w hC).mono fun _ _ ⟨he, hw⟩ => ⟨he, by rw [← hw]; exact Below.refl _ _⟩)
      · cases h
    · cases h
def cOver : Con Try.prog where
  f := 52
  sem := fun xs => match xs with
    | [.agg [.v (.int .i64 a), .v (.int .i64 b)]] => some (wd a = true ∧ wd b = true, .tv (tNN (overR a b).1 (overR a b).2))
    | _ => none
  ok := by
    intro xs p r' h hp
    refine ⟨⟨_, Try.func52, by kernel_rfl, rfl⟩, fun us w ha => ?_⟩
    split at h
    · rename_i a b
      cases h
      obtain ⟨a1, a2⟩ := wd_iff.1 hp.1
      obtain ⟨b1, b2⟩ := wd_iff.1 hp.2
      have la : Len0 (a * 2 ^ Int.toNat 30) := len_i64' (by show -19342813113834066795298816 ≤ a * 1073741824; omega) (by show a * 1073741824 < 19342813113834066795298816; omega)
      refine fn_ret (cxOk Try.prog ints_ok [] [cTold, cRound, cFrom, cLeft]) follows Try.func52 rfl 100 _ rfl (by simp) ?_ ha
      repeat' first
        | exact trivial
        | (refine And.intro (show regChk _ _ _ _ _ = true from by kernel_rfl) (And.intro ?_ ?_))
        | (refine And.intro (fun hb => ?_) (fun hb' => ?_))
        | refine And.intro ?_ ?_
      all_goals first
        | (show Len0 _; first | exact la | exact len_i64 (by omega) (by omega))
        | (show -9223372036854775808 ≤ (_ : Int); omega)
        | (show (_ : Int) < 9223372036854775808; omega)
        | (show (_ : Int) ≤ _; decide)
        | (show (_ : Int) = (_ : Int); rfl)
        | (show some (CR.tv (tNN _ _)) = some (CR.tv (tNN _ _)); first | exact nn_eq (over0 (by assumption)) | exact nn_eq (over1 (by assumption)))
        | exact ne_of (by assumption)
        | exact abs_i64 (by omega) (by omega)
    · cases h
def cReckon : Con Try.prog where
  f := 40
  sem := fun xs => match xs with
    | [.agg [.v (.int .i64 a), .v (.int .i64 b)], .clo f []] => if f = 52 then some (True, .tv (tNN (divR a b).1 (divR a b).2)) else none
    | _ => none
  ok := by
    intro xs p r' h hp
    refine ⟨⟨_, Try.func40, by kernel_rfl, rfl⟩, fun us w ha => ?_⟩
    split at h
    · rename_i a b f
      split at h
      · rename_i hf
        subst hf
        cases h
        refine fn_ret (cxOk Try.prog ints_ok [] [cAll, cOver]) follows Try.func40 rfl 100 _ rfl (by simp) ?_ ha
        repeat' first
          | exact trivial
          | (refine And.intro (show regChk _ _ _ _ _ = true from by kernel_rfl) (And.intro ?_ ?_))
          | (refine And.intro (fun hb => ?_) (fun hb' => ?_))
          | refine And.intro ?_ ?_
        all_goals first
          | (show some (CR.tv (tNN _ _)) = some (CR.tv (tNN _ _)); first | exact nn_eq (div0 (by assumption)) | exact nn_eq (div1 (by assumption)))
          | (show (_ : Nat) = (_ : Nat); rfl)
          | (show (2 : Nat) ≤ 1000; decide)
          | exact (all_2 (by assumption)).1
          | exact (all_2 (by assumption)).2
      · cases h
    · cases h
def cDiv : Con Try.prog := conNN 24 (fun _ _ => True) (fun a b => .tv (tNN (divR a b).1 (divR a b).2)) ⟨_, Try.func24, by kernel_rfl, rfl⟩ (fun a b w hl => by
  refine fn_ret (cxOk Try.prog ints_ok [] [cReckon]) follows Try.func24 rfl 100 _ rfl (by simp) ?_ (xs := [tN .i64 a, tN .i64 b]) (.cons rfl (.cons rfl .nil))
  repeat' first
    | exact trivial
    | (refine And.intro (show regChk _ _ _ _ _ = true from by kernel_rfl) (And.intro ?_ ?_))
    | refine And.intro ?_ ?_
  all_goals first
    | (show some (CR.tv (tNN _ _)) = some (CR.tv (tNN _ _)); rfl))
end
theorem told_nn {f : FuncId} {us : Array Value} {w : World} {p : Int × Int} (h : Ret Try.prog f us w (.tv (tNN p.1 p.2))) : Calls Try.prog f us w fun e w' => e = .returned (.tuple #[.int .i64 p.1, .int .i64 p.2]) ∧ Below w.heap.size w w' :=
  h.mono fun _ _ ⟨u, he, ht, hb⟩ => by
    obtain ⟨us, hu, h2⟩ := ht
    obtain ⟨a, b, rfl, ⟨c, e1, e2⟩, d, e3, e4⟩ := all2_2 h2
    cases e1
    cases e3
    rw [show a = _ from e2, show b = _ from e4] at hu
    exact ⟨by rw [he, hu], hb⟩
theorem nn_args {w : World} (a b : Int) : All2 (TV.reads (fun _ => 0) w.heap.size w) [tN .i64 a, tN .i64 b] [.int .i64 a, .int .i64 b] := .cons rfl (.cons rfl .nil)
theorem div_calls (a b : Int) (w : World) : Calls Try.prog 24 #[.int .i64 a, .int .i64 b] w fun e w' => e = .returned (.tuple #[.int .i64 (divR a b).1, .int .i64 (divR a b).2]) ∧ Below w.heap.size w w' :=
  told_nn ((cDiv.ok [tN .i64 a, tN .i64 b] _ _ rfl trivial).2 _ w (nn_args a b))
theorem ratio_calls (a b : Int) (w : World) (ha : I64 a) (hb : I64 b) : Calls Try.prog 22 #[.int .i64 a, .int .i64 b] w fun e w' => e = .returned (.tuple #[.int .i64 (ratioR a b).1, .int .i64 (ratioR a b).2]) ∧ Below w.heap.size w w' :=
  told_nn ((cRatio.ok [tN .i64 a, tN .i64 b] _ _ rfl ⟨ha, hb⟩).2 _ w (nn_args a b))
end Go.Proofs.Ythokdnheijnmmaa.Wh
