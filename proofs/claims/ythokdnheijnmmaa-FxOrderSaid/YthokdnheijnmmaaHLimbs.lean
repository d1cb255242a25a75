/- Walks of the limbs' functions: trim, cmp, add, sub, left, right. -/
import Derived.Test.YthokdnheijnmmaaHNat
import Derived.Test.YthokdnheijnmmaaHMods
set_option linter.unusedVariables false
namespace Go.Proofs.Ythokdnheijnmmaa.Limbs
open Go.RowKit Go.Proofs.YthokdnheijnmmaaW.PrintWords Go.Proofs.YthokdnheijnmmaaW.PrintLast Go.Proofs.YthokdnheijnmmaaW.PrintMore Go.Proofs.YthokdnheijnmmaaW.Aid Go.Proofs.YthokdnheijnmmaaW.Big

theorem ret_slice {A : Option Addr} {n n' c : Nat} (h : n = n') : Ending.returned (.slice A n c) = .returned (.slice A n' c) := by rw [h]
/-- A slice is told that reads as these limbs. -/
def RetRd (l : List Int) (w : World) (e : Ending) (w' : World) : Prop := ∃ A c, e = .returned (.slice A l.length c) ∧ Rd w' l A c ∧ Below w.heap.size w w'
section
set_option maxRecDepth 10000
set_option maxHeartbeats 400000
theorem trim_calls (l : List Int) (A : Option Addr) (c : Nat) (w : World) (hd : Dig l) (hr : Rd w l A c) : Calls Try.prog 121 #[.slice A l.length c] w (RetRd (limbs (val l)) w) := by
  have HR := Aside0.mk hr
  have HD := Aside0.mk hd
  have hlen : l.length ≤ 9223372036854775807 := hr.2.2.1
  have hle := hr.1
  clear hr hd
  go_enter Try.func121, Try.ntmps121
  go_wp2_with fail
  go_loop [3] (fun v3 => ∃ n : Nat, n ≤ l.length ∧ v3 = .int .i64 n ∧ Aside0 (∀ i, n ≤ i → i < l.length → rd l (i : Int) = 0)) (fun v3 => (intOf v3).toNat)
  case atStart => exact ⟨l.length, by omega, rfl, ⟨fun i h1 h2 => by omega⟩⟩
  case round =>
    obtain ⟨n, hn, rfl, hz⟩ := hrel
    have last : (0 < n → rd l ((n - 1 : Nat) : Int) ≠ 0) → Aside0 (l.take n = limbs (val l)) := fun ht => ⟨limbs_of_take HD.out hn hz.out ht⟩
    by_cases h0 : n = 0
    · subst h0
      have hl := last (fun h => by omega)
      clear last
      go_wp2
      go_ret
      exact ⟨A, 0, ret_slice (by rw [← hl.out]; rfl), (HR.out.pre (n := 0) (by omega) (Nat.le_refl _)).of_eq hl.out, Below.refl _ _⟩
    · obtain ⟨m, rfl⟩ : ∃ m, n = m + 1 := ⟨n - 1, by omega⟩
      obtain ⟨ad, rfl, hcell⟩ := Kd.at_int HR.out.2 (m : Int) (by omega) (by omega)
      simp only [Int.toNat_natCast] at hcell
      have em : ((m + 1 : Nat) : Int) - 1 = (m : Int) := by omega
      by_cases hx : rd l (m : Int) = 0
      · have hn0 : Aside0 (∀ i, m ≤ i → i < l.length → rd l (i : Int) = 0) := ⟨fun i h1 h2 => by
          by_cases e : i = m
          · subst e; exact hx
          · exact hz.out i (by omega) h2⟩
        rw [hx] at hcell
        clear last hx
        go_wp2
        go_round
        case rel => exact ⟨m, by omega, by go_num, hn0⟩
        case measure => simp [intOf]
      · have hl := last (fun _ => hx)
        have hxb : (rd l (m : Int) == 0) = false := by simpa using hx
        clear last hx
        generalize rd l (m : Int) = x at *
        go_wp2
        go_ret
        exact ⟨some ad, m + 1, ret_slice (by rw [← hl.out]; simp; omega), (HR.out.pre (n := m + 1) (by omega) (Nat.le_refl _)).of_eq hl.out, Below.refl _ _⟩
/-- How two numbers stand. -/
def cmpR (x y : Nat) : Int := if x < y then -1 else if y < x then 1 else 0
theorem cmp_len {a b : Nat} (h : (limbs a).length < (limbs b).length) : a < b := by
  have h1 := lt_limbs a
  have h2 : ¬ b < 18446744073709551616 ^ (limbs a).length := fun hb => by have := limbs_len hb; omega
  omega
theorem val_split {l : List Int} {i : Nat} (h : i < l.length) : val l = val (l.take i) + 18446744073709551616 ^ i * ((rd l i).toNat + 18446744073709551616 * val (l.drop (i + 1))) := by
  have e : l = l.take (i + 1) ++ l.drop (i + 1) := (List.take_append_drop _ _).symm
  have := congrArg val e
  rw [val_append, val_take_succ h] at this
  rw [this]
  have hl : (l.take (i + 1)).length = i + 1 := by simp; omega
  rw [hl, Nat.pow_succ, Nat.mul_add, Nat.mul_assoc]
  omega
theorem cmp_at {l l' : List Int} (hd : Dig l) (hd' : Dig l') {i : Nat} (h : i < l.length) (h' : i < l'.length) (hdrop : l.drop (i + 1) = l'.drop (i + 1)) (hlt : rd l i < rd l' i) : val l < val l' := by
  rw [val_split h, val_split h', hdrop]
  have h1 := val_lt (hd.take i)
  have h2 := hd.rd (i := (i : Int)) (by omega) (by omega)
  have h3 := hd'.rd (i := (i : Int)) (by omega) (by omega)
  have hl : (l.take i).length = i := by simp; omega
  rw [hl] at h1
  have : 18446744073709551616 ^ i * ((rd l i).toNat + 18446744073709551616 * val (l'.drop (i + 1)) + 1) ≤ 18446744073709551616 ^ i * ((rd l' i).toNat + 18446744073709551616 * val (l'.drop (i + 1))) := Nat.mul_le_mul_left _ (by omega)
  rw [Nat.mul_add _ _ 1, Nat.mul_one] at this
  omega
theorem cmp_calls (a b : Nat) (A A' : Option Addr) (c c' : Nat) (w : World) (hr : Rd w (limbs a) A c) (hr' : Rd w (limbs b) A' c') : Calls Try.prog 110 #[.slice A (limbs a).length c, .slice A' (limbs b).length c'] w fun e w' => e = .returned (.int .i64 (cmpR a b)) ∧ ∃ n, w' = w.drewN n := by
  have HR := Aside0.mk hr
  have HR' := Aside0.mk hr'
  have hlen : (limbs a).length ≤ 9223372036854775807 := hr.2.2.1
  have hlen' : (limbs b).length ≤ 9223372036854775807 := hr'.2.2.1
  clear hr hr'
  have va := Aside0.mk (val_limbs a)
  have vb := Aside0.mk (val_limbs b)
  have da := Aside0.mk (limbs_dig a)
  have db := Aside0.mk (limbs_dig b)
  have hlt0 := Aside0.mk (@cmp_len a b)
  have hgt0 := Aside0.mk (@cmp_len b a)
  generalize limbs a = l at *
  generalize limbs b = l' at *
  by_cases h1 : l.length < l'.length
  · have e : Aside0 (cmpR a b = -1) := ⟨by unfold cmpR; rw [if_pos (hlt0.out h1)]⟩
    rw [e.out]
    have hne : ((l.length : Int) == (l'.length : Int)) = false := by rw [beq_eq_false_iff_ne]; omega
    have hne2 : (l.length == l'.length) = false := by rw [beq_eq_false_iff_ne]; omega
    have hlt : decide (l.length < l'.length) = true := decide_eq_true h1
    go_enter Try.func110, Try.ntmps110
    go_wp2
    go_ret
    exact ⟨rfl, 0, rfl⟩
  by_cases h2 : l'.length < l.length
  · have e : Aside0 (cmpR a b = 1) := ⟨by have := hgt0.out h2; unfold cmpR; rw [if_neg (by omega), if_pos this]⟩
    rw [e.out]
    have hne : ((l.length : Int) == (l'.length : Int)) = false := by rw [beq_eq_false_iff_ne]; omega
    have hne2 : (l.length == l'.length) = false := by rw [beq_eq_false_iff_ne]; omega
    have hlt : decide (l.length < l'.length) = false := decide_eq_false h1
    go_enter Try.func110, Try.ntmps110
    go_wp2
    go_ret
    exact ⟨rfl, 0, rfl⟩
  have hl : Aside0 (l.length = l'.length) := ⟨by omega⟩
  have heq : ((l.length : Int) == (l'.length : Int)) = true := by rw [beq_iff_eq]; omega
  have heq2 : (l.length == l'.length) = true := by rw [beq_iff_eq]; omega
  have heq3 : ((l.length : Int) != (l'.length : Int)) = false := by rw [bne_eq_false_iff_eq]; omega
  have heq4 : (l.length != l'.length) = false := by rw [bne_eq_false_iff_eq]; omega
  clear h1 h2
  go_enter Try.func110, Try.ntmps110
  go_wp2_with fail
  go_loopw [5] (fun v5 wr => ∃ n : Nat, n ≤ l.length ∧ v5 = .int .i64 ((n : Int) - 1) ∧ Aside0 (l.drop n = l'.drop n) ∧ Aside0 (∃ m, wr = w.drewN m)) (fun v5 _ => (intOf v5 + 1).toNat)
  case atStart => exact ⟨l.length, by omega, rfl, ⟨by rw [List.drop_length, hl.out, List.drop_length]⟩, ⟨0, rfl⟩⟩
  case round =>
    obtain ⟨n, hn, rfl, hdrop, hW⟩ := hrel
    obtain ⟨m0, rfl⟩ := hW.out
    clear hW
    by_cases h0 : n = 0
    · subst h0
      have e : Aside0 (cmpR a b = 0) := ⟨by
        have h1 := hdrop.out
        simp only [List.drop_zero] at h1
        have : a = b := by rw [← va.out, ← vb.out, h1]
        subst this
        unfold cmpR
        rw [if_neg (by omega), if_neg (by omega)]⟩
      go_wp2
      go_ret
      exact ⟨by rw [e.out]; rfl, m0, rfl⟩
    · obtain ⟨m, rfl⟩ : ∃ m, n = m + 1 := ⟨n - 1, by omega⟩
      have em : ((m + 1 : Nat) : Int) - 1 = (m : Int) := by omega
      have hml : m < l.length := by omega
      have hml' : m < l'.length := by have := hl.out; omega
      obtain ⟨ad, rfl, hcell⟩ := Kd.at_int HR.out.2 (m : Int) (by omega) (by omega)
      obtain ⟨ad', rfl, hcell'⟩ := Kd.at_int HR'.out.2 (m : Int) (by omega) (by omega)
      simp only [Int.toNat_natCast] at hcell hcell'
      rw [em]
      have cl : rd l m < rd l' m → Aside0 (cmpR a b = -1) := fun h => ⟨by
        have := cmp_at da.out db.out hml hml' hdrop.out h
        rw [va.out, vb.out] at this
        unfold cmpR
        rw [if_pos this]⟩
      have cg : rd l' m < rd l m → Aside0 (cmpR a b = 1) := fun h => ⟨by
        have := cmp_at db.out da.out hml' hml hdrop.out.symm h
        rw [va.out, vb.out] at this
        unfold cmpR
        rw [if_neg (by omega), if_pos this]⟩
      have ce : rd l m = rd l' m → Aside0 (l.drop m = l'.drop m) := fun h => ⟨by
        rw [List.drop_eq_getElem_cons hml, List.drop_eq_getElem_cons hml', hdrop.out, ← rd_nat hml, ← rd_nat hml', h]⟩
      generalize rd l m = x at *
      generalize rd l' m = y at *
      by_cases c1 : x < y
      · have e := cl c1
        clear cl cg ce
        have c1b : decide (x < y) = true := decide_eq_true c1
        go_wp2
        go_quiet (fail)
        go_wp2
        go_ret
        exact ⟨by rw [e.out]; rfl, _, World.drewN_drewN _ _ _⟩
      · by_cases c2 : y < x
        · have e := cg c2
          clear cl cg ce
          have c1b : decide (x < y) = false := decide_eq_false c1
          have c2b : decide (y < x) = true := decide_eq_true c2
          go_wp2
          go_quiet (fail)
          go_wp2
          go_quiet (fail)
          go_wp2
          go_ret
          exact ⟨by rw [e.out]; rfl, _, by rw [World.drewN_drewN, World.drewN_drewN]⟩
        · have e := ce (by omega)
          clear cl cg ce
          have c1b : decide (x < y) = false := decide_eq_false c1
          have c2b : decide (y < x) = false := decide_eq_false c2
          go_wp2
          go_quiet (fail)
          go_wp2
          go_quiet (fail)
          go_wp2
          go_roundw
          case rel =>
            first
            | exact ⟨m, by omega, by go_num, e, ⟨_, rfl⟩⟩
            | (repeat apply Exists.intro; exact ⟨⟨m, by omega, rfl, e, ⟨_, rfl⟩⟩, rfl⟩)
          case measure => simp [intOf]
end
end Go.Proofs.Ythokdnheijnmmaa.Limbs
