/- HLimbs: HNat, HLimbs, HLimbs2 in one text. -/
import Derived.Test.YthokdnheijnmmaaHBigBase
import Derived.Test.YthokdnheijnmmaaHMods
import Derived.Deep.OwnRows
/- HNat. -/
set_option linter.unusedVariables false
namespace Go.Proofs.YthokdnheijnmmaaW.Big
open Go.RowKit Go.Proofs.YthokdnheijnmmaaW.PrintWords Go.Proofs.YthokdnheijnmmaaW.PrintMore Go.Proofs.YthokdnheijnmmaaW.Aid

abbrev B64 : Nat := 18446744073709551616
theorem val_append (a b : List Int) : val (a ++ b) = val a + 18446744073709551616 ^ a.length * val b := by
  induction a with
  | nil => simp [val]
  | cons x a ih =>
    simp only [List.cons_append, val, ih, List.length_cons, Nat.pow_succ, Nat.mul_add]
    rw [Nat.mul_comm (18446744073709551616 ^ a.length) 18446744073709551616, Nat.mul_assoc, Nat.add_assoc]
theorem val_zeros (n : Nat) : val (List.replicate n 0) = 0 := by
  induction n with
  | zero => rfl
  | succ n ih => simp [List.replicate_succ, val, ih]
theorem Dig.take {l : List Int} (h : Dig l) (n : Nat) : Dig (l.take n) := fun x hx => h x (List.mem_of_mem_take hx)
theorem Dig.drop {l : List Int} (h : Dig l) (n : Nat) : Dig (l.drop n) := fun x hx => h x (List.mem_of_mem_drop hx)
theorem Dig.append {a b : List Int} (h : Dig a) (h' : Dig b) : Dig (a ++ b) := fun x hx => (List.mem_append.1 hx).elim (h x) (h' x)
theorem Dig.set {l : List Int} (h : Dig l) (i : Nat) {v : Int} (h0 : 0 ≤ v) (h1 : v < 18446744073709551616) : Dig (l.set i v) := fun x hx => by
  rcases List.mem_or_eq_of_mem_set hx with hx | rfl
  · exact h x hx
  · exact ⟨h0, h1⟩
theorem Dig.zeros (n : Nat) : Dig (List.replicate n 0) := fun x hx => by
  have := List.eq_of_mem_replicate hx
  omega
theorem Dig.rd {l : List Int} (h : Dig l) {i : Int} (h0 : 0 ≤ i) (h1 : i < (l.length : Int)) : 0 ≤ rd l i ∧ rd l i < 18446744073709551616 := h _ (rd_mem h0 h1)
theorem rd_nat {l : List Int} {i : Nat} (h : i < l.length) : rd l (i : Int) = l[i] := by
  obtain ⟨hj, e⟩ := rd_at (l := l) (i := (i : Int)) (by omega) (by omega)
  rw [e]; simp
theorem take_succ_rd {l : List Int} {i : Nat} (h : i < l.length) : l.take (i + 1) = l.take i ++ [rd l i] := by
  rw [rd_nat h, List.take_succ_eq_append_getElem h]
theorem val_take_succ {l : List Int} {i : Nat} (h : i < l.length) : val (l.take (i + 1)) = val (l.take i) + 18446744073709551616 ^ i * (rd l i).toNat := by
  rw [take_succ_rd h, val_append]
  simp [val, Nat.min_eq_left (Nat.le_of_lt h)]
theorem val_lt {l : List Int} (h : Dig l) : val l < 18446744073709551616 ^ l.length := by
  induction l with
  | nil => simp [val]
  | cons x l ih =>
    have hx := h x (by simp)
    have := ih (fun y hy => h y (List.mem_cons_of_mem _ hy))
    rw [List.length_cons, Nat.pow_succ, val]
    have : 18446744073709551616 * (val l + 1) ≤ 18446744073709551616 ^ l.length * 18446744073709551616 := by rw [Nat.mul_comm]; exact Nat.mul_le_mul_right _ (by omega)
    omega
theorem set_take {l : List Int} {i : Nat} (v : Int) (h : i < l.length) : (l.set i v).take (i + 1) = l.take i ++ [v] := by
  rw [List.take_succ_eq_append_getElem (by simpa using h), List.getElem_set_self, List.take_set_of_le (Nat.le_refl _)]
theorem val_set_take {l : List Int} {i : Nat} {v : Int} (h : i < l.length) : val ((l.set i v).take (i + 1)) = val (l.take i) + 18446744073709551616 ^ i * v.toNat := by
  rw [set_take v h, val_append]
  simp [val, Nat.min_eq_left (Nat.le_of_lt h)]
theorem rd_set_ne {l : List Int} {i j : Nat} (v : Int) (h : i ≠ j) : rd (l.set i v) (j : Int) = rd l (j : Int) := by
  unfold rd
  rw [List.getD_eq_getElem?_getD, List.getD_eq_getElem?_getD, Int.toNat_natCast, List.getElem?_set_ne h]
theorem rd_set_eq {l : List Int} {i : Nat} (v : Int) (h : i < l.length) : rd (l.set i v) (i : Int) = v := by
  rw [rd_nat (by simpa using h), List.getElem_set_self]
theorem rd_zeros {n i : Nat} : rd (List.replicate n 0) (i : Int) = 0 := by
  unfold rd
  rw [List.getD_eq_getElem?_getD, Int.toNat_natCast]
  by_cases h : i < n
  · rw [List.getElem?_replicate, if_pos h]; rfl
  · rw [List.getElem?_replicate, if_neg h]; rfl
/-- The limbs without the noughts on top. -/
theorem limbs_of_take {l : List Int} (h : Dig l) {n : Nat} (hn : n ≤ l.length) (hz : ∀ i, n ≤ i → i < l.length → rd l (i : Int) = 0) (ht : 0 < n → rd l ((n - 1 : Nat) : Int) ≠ 0) : l.take n = limbs (val l) := by
  have e : l = l.take n ++ List.replicate (l.length - n) 0 := by
    refine List.ext_getElem (by simp; omega) (fun j h1 h2 => ?_)
    by_cases hj : j < n
    · rw [List.getElem_append_left (by simp; omega)]
      simp
    · rw [List.getElem_append_right (by simp; omega), List.getElem_replicate, ← rd_nat h1]
      exact hz j (by omega) h1
  have hv : val l = val (l.take n) := by
    have := congrArg val e
    rw [val_append, val_zeros] at this
    simpa using this
  rw [hv]
  refine Canon.limbs ⟨h.take n, fun hne => ?_⟩
  have hn0 : 0 < n := by
    rcases Nat.eq_zero_or_pos n with r | r
    · subst r; simp at hne
    · exact r
  have := ht hn0
  rw [rd_nat (by omega)] at this
  rw [List.getLast_eq_getElem]
  simp only [List.length_take, Nat.min_eq_left hn, List.getElem_take]
  exact this
/-- A canonical row and its number. -/
theorem canon_val {l : List Int} (h : Canon l) : limbs (val l) = l := h.limbs.symm
/-- A block of limbs. -/
def lc (l : List Int) : Array Value := (l.map (Value.int .u64)).toArray
theorem lc_at {l : List Int} {i : Nat} (h : i < l.length) : (lc l)[i]? = some (.int .u64 (rd l i)) := by
  rw [rd_nat h]
  simp [lc, h]
theorem lc_set (l : List Int) (i : Nat) (v : Int) : (lc l).setIfInBounds i (.int .u64 v) = lc (l.set i v) := by
  simp [lc, List.map_set]
theorem lc_size (l : List Int) : (lc l).size = l.length := by simp [lc]
/-- A block that is known reads as its limbs. -/
theorem Rd.of_block {w : World} {g : Nat} {t : TypeId} {l : List Int} (h : w.heap[g]? = some (.cells (lc l) t (0, 0))) {n c : Nat} (hn : n ≤ l.length) (hc : n ≤ c) (hm : n ≤ 9223372036854775807) : Rd w (l.take n) (some ⟨g, 0, none⟩) c := by
  have hl : (l.take n).length = n := by simp; omega
  refine ⟨by omega, ?_⟩
  refine ⟨rfl, by omega, fun _ => ⟨_, rfl, fun j p hj => ⟨[.int .u64 p], rfl, rfl, fun i u hu => ?_⟩⟩⟩
  have hi : i = 0 := by
    cases i with
    | zero => rfl
    | succ i => simp at hu
  subst hi
  simp at hu
  subst hu
  have hjn : j < n := by have := (List.getElem?_eq_some_iff.1 hj).1; omega
  have e : p = rd l (j : Int) := by
    rw [rd_nat (by omega)]
    rw [List.getElem?_take_of_lt hjn, List.getElem?_eq_getElem (by omega)] at hj
    exact (Option.some.inj hj).symm
  have := (blk_cell h j).trans (lc_at (l := l) (i := j) (by omega))
  rw [e, ← this]
  show w.cell? ((⟨g, 0, none⟩ : Addr).add (j * 1 + 0)) = _
  congr 1
  simp [Addr.add]
  omega
theorem Rd.pre {w : World} {l : List Int} {A : Option Addr} {c n c' : Nat} (h : Rd w l A c) (hn : n ≤ l.length) (hc : n ≤ c') : Rd w (l.take n) A c' := by
  have hl : (l.take n).length = n := by simp; omega
  refine ⟨by omega, ?_⟩
  refine ⟨rfl, by have := h.2.2.1; omega, fun hpos => ?_⟩
  obtain ⟨ad, hA, hc⟩ := h.2.2.2 (by omega)
  refine ⟨ad, hA, fun j p hj => hc j p ?_⟩
  have hjn : j < n := by have := (List.getElem?_eq_some_iff.1 hj).1; omega
  rwa [List.getElem?_take_of_lt hjn] at hj
theorem Rd.of_eq {w : World} {l l' : List Int} {A : Option Addr} {c : Nat} (h : Rd w l A c) (e : l = l') : Rd w l' A c := e ▸ h
end Go.Proofs.YthokdnheijnmmaaW.Big
/- HLimbs. -/
set_option linter.unusedVariables false
namespace Go.Proofs.Ythokdnheijnmmaa.Limbs
open Go.RowKit Go.Proofs.YthokdnheijnmmaaW.PrintWords Go.Proofs.YthokdnheijnmmaaW.PrintLast Go.Proofs.YthokdnheijnmmaaW.PrintMore Go.Proofs.YthokdnheijnmmaaW.Aid Go.Proofs.YthokdnheijnmmaaW.Big

theorem ret_slice {A : Option Addr} {n n' c : Nat} (h : n = n') : Ending.returned (.slice A n c) = .returned (.slice A n' c) := by rw [h]
/-- A slice is told that reads as these limbs. -/
def RetRd (l : List Int) (w : World) (e : Ending) (w' : World) : Prop := ∃ A c, e = .returned (.slice A l.length c) ∧ Rd w' l A c ∧ Below w.heap.size w w'
section
set_option maxRecDepth 10000
set_option maxHeartbeats 400000
theorem trim_calls (l : List Int) (A : Option Addr) (c : Nat) (w : World) (hd : Dig l) (hr : Rd w l A c) : Calls Try.prog 121 #[.slice A l.length c] w (RetRd (limbs (val l)) w) := by
  have HR := Aside0.mk hr
  have HD := Aside0.mk hd
  have hlen : l.length ≤ 9223372036854775807 := hr.2.2.1
  have hle := hr.1
  clear hr hd
  go_enter Try.func121, Try.ntmps121
  go_wp2_with fail
  go_loop [3] (fun v3 => ∃ n : Nat, n ≤ l.length ∧ v3 = .int .i64 n ∧ Aside0 (∀ i, n ≤ i → i < l.length → rd l (i : Int) = 0)) (fun v3 => (intOf v3).toNat)
  case atStart => exact ⟨l.length, by omega, rfl, ⟨fun i h1 h2 => by omega⟩⟩
  case round =>
    obtain ⟨n, hn, rfl, hz⟩ := hrel
    have last : (0 < n → rd l ((n - 1 : Nat) : Int) ≠ 0) → Aside0 (l.take n = limbs (val l)) := fun ht => ⟨limbs_of_take HD.out hn hz.out ht⟩
    by_cases h0 : n = 0
    · subst h0
      have hl := last (fun h => by omega)
      clear last
      go_wp2
      go_ret
      exact ⟨A, 0, ret_slice (by rw [← hl.out]; rfl), (HR.out.pre (n := 0) (by omega) (Nat.le_refl _)).of_eq hl.out, Below.refl _ _⟩
    · obtain ⟨m, rfl⟩ : ∃ m, n = m + 1 := ⟨n - 1, by omega⟩
      obtain ⟨ad, rfl, hcell⟩ := Kd.at_int HR.out.2 (m : Int) (by omega) (by omega)
      simp only [Int.toNat_natCast] at hcell
      have em : ((m + 1 : Nat) : Int) - 1 = (m : Int) := by omega
      by_cases hx : rd l (m : Int) = 0
      · have hn0 : Aside0 (∀ i, m ≤ i → i < l.length → rd l (i : Int) = 0) := ⟨fun i h1 h2 => by
          by_cases e : i = m
          · subst e; exact hx
          · exact hz.out i (by omega) h2⟩
        rw [hx] at hcell
        clear last hx
        go_wp2
        go_round
        case rel => exact ⟨m, by omega, by go_num, hn0⟩
        case measure => simp [intOf]
      · have hl := last (fun _ => hx)
        have hxb : (rd l (m : Int) == 0) = false := by simpa using hx
        clear last hx
        generalize rd l (m : Int) = x at *
        go_wp2
        go_ret
        exact ⟨some ad, m + 1, ret_slice (by rw [← hl.out]; simp; omega), (HR.out.pre (n := m + 1) (by omega) (Nat.le_refl _)).of_eq hl.out, Below.refl _ _⟩
/-- How two numbers stand. -/
def cmpR (x y : Nat) : Int := if x < y then -1 else if y < x then 1 else 0
theorem cmp_len {a b : Nat} (h : (limbs a).length < (limbs b).length) : a < b := by
  have h1 := lt_limbs a
  have h2 : ¬ b < 18446744073709551616 ^ (limbs a).length := fun hb => by have := limbs_len hb; omega
  omega
theorem val_split {l : List Int} {i : Nat} (h : i < l.length) : val l = val (l.take i) + 18446744073709551616 ^ i * ((rd l i).toNat + 18446744073709551616 * val (l.drop (i + 1))) := by
  have e : l = l.take (i + 1) ++ l.drop (i + 1) := (List.take_append_drop _ _).symm
  have := congrArg val e
  rw [val_append, val_take_succ h] at this
  rw [this]
  have hl : (l.take (i + 1)).length = i + 1 := by simp; omega
  rw [hl, Nat.pow_succ, Nat.mul_add, Nat.mul_assoc]
  omega
theorem cmp_at {l l' : List Int} (hd : Dig l) (hd' : Dig l') {i : Nat} (h : i < l.length) (h' : i < l'.length) (hdrop : l.drop (i + 1) = l'.drop (i + 1)) (hlt : rd l i < rd l' i) : val l < val l' := by
  rw [val_split h, val_split h', hdrop]
  have h1 := val_lt (hd.take i)
  have h2 := hd.rd (i := (i : Int)) (by omega) (by omega)
  have h3 := hd'.rd (i := (i : Int)) (by omega) (by omega)
  have hl : (l.take i).length = i := by simp; omega
  rw [hl] at h1
  have : 18446744073709551616 ^ i * ((rd l i).toNat + 18446744073709551616 * val (l'.drop (i + 1)) + 1) ≤ 18446744073709551616 ^ i * ((rd l' i).toNat + 18446744073709551616 * val (l'.drop (i + 1))) := Nat.mul_le_mul_left _ (by omega)
  rw [Nat.mul_add _ _ 1, Nat.mul_one] at this
  omega
theorem cmp_calls (a b : Nat) (A A' : Option Addr) (c c' : Nat) (w : World) (hr : Rd w (limbs a) A c) (hr' : Rd w (limbs b) A' c') : Calls Try.prog 110 #[.slice A (limbs a).length c, .slice A' (limbs b).length c'] w fun e w' => e = .returned (.int .i64 (cmpR a b)) ∧ ∃ n, w' = w.drewN n := by
  have HR := Aside0.mk hr
  have HR' := Aside0.mk hr'
  have hlen : (limbs a).length ≤ 9223372036854775807 := hr.2.2.1
  have hlen' : (limbs b).length ≤ 9223372036854775807 := hr'.2.2.1
  clear hr hr'
  have va := Aside0.mk (val_limbs a)
  have vb := Aside0.mk (val_limbs b)
  have da := Aside0.mk (limbs_dig a)
  have db := Aside0.mk (limbs_dig b)
  have hlt0 := Aside0.mk (@cmp_len a b)
  have hgt0 := Aside0.mk (@cmp_len b a)
  generalize limbs a = l at *
  generalize limbs b = l' at *
  by_cases h1 : l.length < l'.length
  · have e : Aside0 (cmpR a b = -1) := ⟨by unfold cmpR; rw [if_pos (hlt0.out h1)]⟩
    rw [e.out]
    have hne : ((l.length : Int) == (l'.length : Int)) = false := by rw [beq_eq_false_iff_ne]; omega
    have hne2 : (l.length == l'.length) = false := by rw [beq_eq_false_iff_ne]; omega
    have hlt : decide (l.length < l'.length) = true := decide_eq_true h1
    go_enter Try.func110, Try.ntmps110
    go_wp2
    go_ret
    exact ⟨rfl, 0, rfl⟩
  by_cases h2 : l'.length < l.length
  · have e : Aside0 (cmpR a b = 1) := ⟨by have := hgt0.out h2; unfold cmpR; rw [if_neg (by omega), if_pos this]⟩
    rw [e.out]
    have hne : ((l.length : Int) == (l'.length : Int)) = false := by rw [beq_eq_false_iff_ne]; omega
    have hne2 : (l.length == l'.length) = false := by rw [beq_eq_false_iff_ne]; omega
    have hlt : decide (l.length < l'.length) = false := decide_eq_false h1
    go_enter Try.func110, Try.ntmps110
    go_wp2
    go_ret
    exact ⟨rfl, 0, rfl⟩
  have hl : Aside0 (l.length = l'.length) := ⟨by omega⟩
  have heq : ((l.length : Int) == (l'.length : Int)) = true := by rw [beq_iff_eq]; omega
  have heq2 : (l.length == l'.length) = true := by rw [beq_iff_eq]; omega
  have heq3 : ((l.length : Int) != (l'.length : Int)) = false := by rw [bne_eq_false_iff_eq]; omega
  have heq4 : (l.length != l'.length) = false := by rw [bne_eq_false_iff_eq]; omega
  clear h1 h2
  go_enter Try.func110, Try.ntmps110
  go_wp2_with fail
  go_loopw [5] (fun v5 wr => ∃ n : Nat, n ≤ l.length ∧ v5 = .int .i64 ((n : Int) - 1) ∧ Aside0 (l.drop n = l'.drop n) ∧ Aside0 (∃ m, wr = w.drewN m)) (fun v5 _ => (intOf v5 + 1).toNat)
  case atStart => exact ⟨l.length, by omega, rfl, ⟨by rw [List.drop_length, hl.out, List.drop_length]⟩, ⟨0, rfl⟩⟩
  case round =>
    obtain ⟨n, hn, rfl, hdrop, hW⟩ := hrel
    obtain ⟨m0, rfl⟩ := hW.out
    clear hW
    by_cases h0 : n = 0
    · subst h0
      have e : Aside0 (cmpR a b = 0) := ⟨by
        have h1 := hdrop.out
        simp only [List.drop_zero] at h1
        have : a = b := by rw [← va.out, ← vb.out, h1]
        subst this
        unfold cmpR
        rw [if_neg (by omega), if_neg (by omega)]⟩
      go_wp2
      go_ret
      exact ⟨by rw [e.out]; rfl, m0, rfl⟩
    · obtain ⟨m, rfl⟩ : ∃ m, n = m + 1 := ⟨n - 1, by omega⟩
      have em : ((m + 1 : Nat) : Int) - 1 = (m : Int) := by omega
      have hml : m < l.length := by omega
      have hml' : m < l'.length := by have := hl.out; omega
      obtain ⟨ad, rfl, hcell⟩ := Kd.at_int HR.out.2 (m : Int) (by omega) (by omega)
      obtain ⟨ad', rfl, hcell'⟩ := Kd.at_int HR'.out.2 (m : Int) (by omega) (by omega)
      simp only [Int.toNat_natCast] at hcell hcell'
      rw [em]
      have cl : rd l m < rd l' m → Aside0 (cmpR a b = -1) := fun h => ⟨by
        have := cmp_at da.out db.out hml hml' hdrop.out h
        rw [va.out, vb.out] at this
        unfold cmpR
        rw [if_pos this]⟩
      have cg : rd l' m < rd l m → Aside0 (cmpR a b = 1) := fun h => ⟨by
        have := cmp_at db.out da.out hml' hml hdrop.out.symm h
        rw [va.out, vb.out] at this
        unfold cmpR
        rw [if_neg (by omega), if_pos this]⟩
      have ce : rd l m = rd l' m → Aside0 (l.drop m = l'.drop m) := fun h => ⟨by
        rw [List.drop_eq_getElem_cons hml, List.drop_eq_getElem_cons hml', hdrop.out, ← rd_nat hml, ← rd_nat hml', h]⟩
      generalize rd l m = x at *
      generalize rd l' m = y at *
      by_cases c1 : x < y
      · have e := cl c1
        clear cl cg ce
        have c1b : decide (x < y) = true := decide_eq_true c1
        go_wp2
        go_quiet (fail)
        go_wp2
        go_ret
        exact ⟨by rw [e.out]; rfl, _, World.drewN_drewN _ _ _⟩
      · by_cases c2 : y < x
        · have e := cg c2
          clear cl cg ce
          have c1b : decide (x < y) = false := decide_eq_false c1
          have c2b : decide (y < x) = true := decide_eq_true c2
          go_wp2
          go_quiet (fail)
          go_wp2
          go_quiet (fail)
          go_wp2
          go_ret
          exact ⟨by rw [e.out]; rfl, _, by rw [World.drewN_drewN, World.drewN_drewN]⟩
        · have e := ce (by omega)
          clear cl cg ce
          have c1b : decide (x < y) = false := decide_eq_false c1
          have c2b : decide (y < x) = false := decide_eq_false c2
          go_wp2
          go_quiet (fail)
          go_wp2
          go_quiet (fail)
          go_wp2
          go_roundw
          case rel =>
            first
            | exact ⟨m, by omega, by go_num, e, ⟨_, rfl⟩⟩
            | (repeat apply Exists.intro; exact ⟨⟨m, by omega, rfl, e, ⟨_, rfl⟩⟩, rfl⟩)
          case measure => simp [intOf]
end
end Go.Proofs.Ythokdnheijnmmaa.Limbs
/- HLimbs2. -/
set_option linter.unusedVariables false
namespace Go.Proofs.Ythokdnheijnmmaa.Limbs
open Go.RowKit Go.Proofs.YthokdnheijnmmaaW.PrintWords Go.Proofs.YthokdnheijnmmaaW.PrintLast Go.Proofs.YthokdnheijnmmaaW.PrintMore Go.Proofs.YthokdnheijnmmaaW.Aid Go.Proofs.YthokdnheijnmmaaW.Big
section
set_option maxRecDepth 10000
set_option maxHeartbeats 1000000
theorem info64 : (Try.prog.info? 76).map (fun i => (i.zero, i.size, i.bytes)) = some (some (.int .u64 0), 1, 8) := by kernel_rfl
theorem made_lc (n : Nat) : madeCells #[Value.int .u64 0] n = lc (List.replicate n 0) := by
  refine Array.ext (by simp [madeCells, lc]) (fun i h1 h2 => ?_)
  simp [madeCells, lc, Nat.mod_one]
/-- 'make(Nat, n)'. -/
theorem mk_run (n : Nat) (hn : n ≤ 100000) (m : Int) (hm : m = (n : Int)) (w : World) : (Instr.makeSlice 56 (.int .i64 m) (.int .i64 m)).run Try.prog w = .ok (.slice (some ⟨w.heap.size, 0, none⟩) n n) (w.alloc (.cells (lc (List.replicate n 0)) 76)) := by
  rw [hm, ← made_lc]
  exact run_make_row' 56 76 (.int .u64 0) 8 Try.underlying56 info64 rfl .i64 .i64 n (by omega) (by omega) w
/-- A limb's sum with a carry. -/
theorem add_limb {x cy s : Int} (hx0 : 0 ≤ x) (hx1 : x < 18446744073709551616) (hc0 : 0 ≤ cy) (hc1 : cy ≤ 1) (h : IntKind.u64.wrap (x + cy) = s) : (¬ s < x ∧ s = x + cy) ∨ (s < x ∧ cy = 1 ∧ x = 18446744073709551615 ∧ s = 0) := by
  rw [u64_wrap] at h
  omega
theorem add_limb2 {y s r : Int} (hy0 : 0 ≤ y) (hy1 : y < 18446744073709551616) (hs0 : 0 ≤ s) (hs1 : s < 18446744073709551616) (h : IntKind.u64.wrap (s + y) = r) : 0 ≤ r ∧ r < 18446744073709551616 ∧ ((¬ r < y ∧ r = s + y) ∨ (r < y ∧ r + 18446744073709551616 = s + y)) := by
  rw [u64_wrap] at h
  omega
/-- What holds behind so many limbs of a sum. -/
def AddInv (a b : List Int) (i : Nat) (cy : Int) (cs : List Int) : Prop :=
  cs.length = a.length + 1 ∧ Dig cs ∧ 0 ≤ cy ∧ cy ≤ 1 ∧ val (cs.take i) + 18446744073709551616 ^ i * cy.toNat = val (a.take i) + val (b.take i)
theorem take_ge {b : List Int} {i : Nat} (h : b.length ≤ i) : val (b.take (i + 1)) = val (b.take i) := by
  rw [List.take_of_length_le h, List.take_of_length_le (by omega)]
theorem AddInv.step1 {a b cs : List Int} {i : Nat} {cy : Int} (h : AddInv a b i cy cs) (ha : i < a.length) (hb : b.length ≤ i) {s cy' : Int} (hs0 : 0 ≤ s) (hs1 : s < 18446744073709551616) (hc0 : 0 ≤ cy') (hc1 : cy' ≤ 1)
    (e : s + 18446744073709551616 * cy' = rd a i + cy) (ha0 : 0 ≤ rd a i) : AddInv a b (i + 1) cy' (cs.set i s) := by
  obtain ⟨h1, h2, h3, h4, h5⟩ := h
  refine ⟨by simpa using h1, h2.set i hs0 hs1, hc0, hc1, ?_⟩
  rw [val_set_take (by omega), val_take_succ ha, take_ge hb, Nat.pow_succ, Nat.mul_assoc]
  have e' : s.toNat + 18446744073709551616 * cy'.toNat = (rd a i).toNat + cy.toNat := by omega
  have := congrArg (18446744073709551616 ^ i * ·) e'
  simp only [Nat.mul_add] at this
  omega
theorem AddInv.step2 {a b cs : List Int} {i : Nat} {cy : Int} (h : AddInv a b i cy cs) (ha : i < a.length) (hb : i < b.length) {s cy' : Int} (hs0 : 0 ≤ s) (hs1 : s < 18446744073709551616) (hc0 : 0 ≤ cy') (hc1 : cy' ≤ 1)
    (e : s + 18446744073709551616 * cy' = rd a i + rd b i + cy) (ha0 : 0 ≤ rd a i) (hb0 : 0 ≤ rd b i) : AddInv a b (i + 1) cy' (cs.set i s) := by
  obtain ⟨h1, h2, h3, h4, h5⟩ := h
  refine ⟨by simpa using h1, h2.set i hs0 hs1, hc0, hc1, ?_⟩
  rw [val_set_take (by omega), val_take_succ ha, val_take_succ hb, Nat.pow_succ, Nat.mul_assoc]
  have e' : s.toNat + 18446744073709551616 * cy'.toNat = (rd a i).toNat + (rd b i).toNat + cy.toNat := by omega
  have := congrArg (18446744073709551616 ^ i * ·) e'
  simp only [Nat.mul_add] at this
  omega
theorem AddInv.done {a b cs : List Int} {cy : Int} (h : AddInv a b a.length cy cs) (hb : b.length ≤ a.length) : Dig (cs.set a.length cy) ∧ val (cs.set a.length cy) = val a + val b ∧ (cs.set a.length cy).length = a.length + 1 := by
  obtain ⟨h1, h2, h3, h4, h5⟩ := h
  refine ⟨h2.set _ h3 (by omega), ?_, by simpa using h1⟩
  have e : cs.set a.length cy = (cs.set a.length cy).take (a.length + 1) := by rw [List.take_of_length_le (by simp; omega)]
  rw [e, val_set_take (by omega), h5, List.take_length, List.take_of_length_le hb]
theorem AddInv.start (a b : List Int) : AddInv a b 0 0 (List.replicate (a.length + 1) 0) := ⟨by simp, Dig.zeros _, by omega, by omega, by simp [val]⟩

theorem add_calls (a b : List Int) (A A' : Option Addr) (c c' : Nat) (w : World) (hda : Dig a) (hdb : Dig b) (hr : Rd w a A c) (hr' : Rd w b A' c') (hla : a.length ≤ 1000) (hlb : b.length ≤ 1000) :
    Calls Try.prog 111 #[.slice A a.length c, .slice A' b.length c'] w (RetRd (limbs (val a + val b)) w) := by
  have HR := Aside0.mk hr
  have HR' := Aside0.mk hr'
  have DA := Aside0.mk hda
  have DB := Aside0.mk hdb
  clear hr hr' hda hdb
  by_cases hlt : a.length < b.length
  · have hb : decide (a.length < b.length) = true := decide_eq_true hlt
    have hsum : val a + val b = val b + val a := Nat.add_comm _ _
    rw [hsum]
    clear hsum
    have hmk := fun w => mk_run (b.length + 1) (by omega) ((b.length : Int) + 1) (by omega) w
    go_enter Try.func111, Try.ntmps111
    go_wp2_with fail
    go_loopw [6, 23] (fun v6 v23 wr => ∃ (i : Nat) (cy : Int) (cs : List Int), i ≤ b.length ∧ v23 = .int .i64 i ∧ v6 = .int .u64 cy ∧ Aside0 (AddInv b a i cy cs) ∧ Aside0 (wr.heap[w.heap.size]? = some (.cells (lc cs) 76 (0, 0))) ∧ Aside0 (Below w.heap.size w wr)) (fun _ v23 _ => b.length - (intOf v23).toNat)
    case atStart => exact ⟨0, 0, _, by omega, rfl, rfl, ⟨AddInv.start _ _⟩, ⟨blk_new w _⟩, ⟨below_alloc (Below.refl _ _) _⟩⟩
    case round =>
      obtain ⟨i, cy, cs, hi, rfl, rfl, hI, hblk, hB⟩ := hrel
      have hcl := hI.out.1
      have hc0 := hI.out.2.2.1
      have hc1 := hI.out.2.2.2.1
      have hfz := blk_frozen hblk.out i
      have hcw : wr.cell? ⟨w.heap.size, i, none⟩ = some (.int .u64 (rd cs i)) := (blk_cell hblk.out i).trans (lc_at (by omega))
      clear hmk
      by_cases hil : i < b.length
      · obtain ⟨ad, rfl, hcell⟩ := Kd.at_int (HR'.out.below hB.out).2 (i : Int) (by omega) (by omega)
        simp only [Int.toNat_natCast] at hcell
        have hx := Aside0.mk (DB.out.rd (i := (i : Int)) (by omega) (by omega))
        have st1 : Aside0 (∀ s cy' : Int, a.length ≤ i → 0 ≤ s → s < 18446744073709551616 → 0 ≤ cy' → cy' ≤ 1 → s + 18446744073709551616 * cy' = rd b i + cy → AddInv b a (i + 1) cy' (cs.set i s)) := ⟨fun s cy' h1 h2 h3 h4 h5 h6 => hI.out.step1 hil h1 h2 h3 h4 h5 h6 hx.out.1⟩
        have st2 : Aside0 (∀ s cy' : Int, i < a.length → 0 ≤ s → s < 18446744073709551616 → 0 ≤ cy' → cy' ≤ 1 → s + 18446744073709551616 * cy' = rd b i + rd a i + cy → AddInv b a (i + 1) cy' (cs.set i s)) := ⟨fun s cy' h1 h2 h3 h4 h5 h6 => hI.out.step2 hil h1 h2 h3 h4 h5 h6 hx.out.1 (DA.out.rd (i := (i : Int)) (by omega) (by omega)).1⟩
        generalize rd b i = x at *
        obtain ⟨s, hs⟩ : ∃ s, IntKind.u64.wrap (x + cy) = s := ⟨_, rfl⟩
        have hS := Aside0.mk (add_limb hx.out.1 hx.out.2 hc0 hc1 hs)
        have hs01 : Aside0 (0 ≤ s ∧ s < 18446744073709551616) := ⟨by have := hx.out; rcases hS.out with h | h <;> (rw [u64_wrap] at hs; omega)⟩
        by_cases hib : i < a.length
        · have hib1 : decide (i < a.length) = true := decide_eq_true hib
          have hib2 : decide ((i : Int) < (a.length : Int)) = true := decide_eq_true (by omega)
          obtain ⟨ad', rfl, hcell'⟩ := Kd.at_int (HR.out.below hB.out).2 (i : Int) (by omega) (by omega)
          simp only [Int.toNat_natCast] at hcell'
          have hy := Aside0.mk (DA.out.rd (i := (i : Int)) (by omega) (by omega))
          generalize rd a i = y at *
          obtain ⟨r, hr⟩ : ∃ r, IntKind.u64.wrap (s + y) = r := ⟨_, rfl⟩
          have hR := Aside0.mk (add_limb2 hy.out.1 hy.out.2 hs01.out.1 hs01.out.2 hr)
          by_cases c1 : s < x
          · have c1b : decide (s < x) = true := decide_eq_true c1
            have c2 : ¬ r < y := by have := hR.out; have := hS.out; have := hy.out; omega
            have c2b : decide (r < y) = false := decide_eq_false c2
            have fin := Aside0.mk (st2.out r 1 hib (by have := hR.out; omega) (by have := hR.out; omega) (by omega) (by omega) (by have := hR.out; have := hS.out; have := hx.out; omega))
            clear c1 c2
            go_wp2
            go_roundw
            case rel => exact ⟨i + 1, 1, cs.set i r, by omega, by go_num, rfl, fin, ⟨blk_put hblk.out i _ (lc_set cs i r)⟩, ⟨below_set hB.out (Nat.le_refl _)⟩⟩
            case measure => simp [intOf]; omega
          · have c1b : decide (s < x) = false := decide_eq_false c1
            by_cases c2 : r < y
            · have c2b : decide (r < y) = true := decide_eq_true c2
              have fin := Aside0.mk (st2.out r 1 hib (by have := hR.out; omega) (by have := hR.out; omega) (by omega) (by omega) (by have := hR.out; have := hS.out; have := hx.out; omega))
              clear c1 c2
              go_wp2
              go_roundw
              case rel => exact ⟨i + 1, 1, cs.set i r, by omega, by go_num, rfl, fin, ⟨blk_put hblk.out i _ (lc_set cs i r)⟩, ⟨below_set hB.out (Nat.le_refl _)⟩⟩
              case measure => simp [intOf]; omega
            · have c2b : decide (r < y) = false := decide_eq_false c2
              have fin := Aside0.mk (st2.out r 0 hib (by have := hR.out; omega) (by have := hR.out; omega) (by omega) (by omega) (by have := hR.out; have := hS.out; have := hx.out; omega))
              clear c1 c2
              go_wp2
              go_roundw
              case rel => exact ⟨i + 1, 0, cs.set i r, by omega, by go_num, rfl, fin, ⟨blk_put hblk.out i _ (lc_set cs i r)⟩, ⟨below_set hB.out (Nat.le_refl _)⟩⟩
              case measure => simp [intOf]; omega
        · have hib1 : decide (i < a.length) = false := decide_eq_false hib
          have hib2 : decide ((i : Int) < (a.length : Int)) = false := decide_eq_false (by omega)
          by_cases c1 : s < x
          · have c1b : decide (s < x) = true := decide_eq_true c1
            have fin := Aside0.mk (st1.out s 1 (by omega) hs01.out.1 hs01.out.2 (by omega) (by omega) (by have := hS.out; have := hx.out; omega))
            clear c1
            go_wp2
            go_roundw
            case rel => exact ⟨i + 1, 1, cs.set i s, by omega, by go_num, rfl, fin, ⟨blk_put hblk.out i _ (lc_set cs i s)⟩, ⟨below_set hB.out (Nat.le_refl _)⟩⟩
            case measure => simp [intOf]; omega
          · have c1b : decide (s < x) = false := decide_eq_false c1
            have fin := Aside0.mk (st1.out s 0 (by omega) hs01.out.1 hs01.out.2 (by omega) (by omega) (by have := hS.out; have := hx.out; omega))
            clear c1
            go_wp2
            go_roundw
            case rel => exact ⟨i + 1, 0, cs.set i s, by omega, by go_num, rfl, fin, ⟨blk_put hblk.out i _ (lc_set cs i s)⟩, ⟨below_set hB.out (Nat.le_refl _)⟩⟩
            case measure => simp [intOf]; omega
      · obtain rfl : i = b.length := by omega
        have hfin := Aside0.mk (hI.out.done (by omega))
        have hnb := Aside0.mk (blk_put hblk.out b.length (.int .u64 cy) (lc_set cs b.length cy))
        have hrd := Aside0.mk ((Rd.of_block hnb.out (n := b.length + 1) (c := b.length + 1) (by have := hfin.out.2.2; omega) (Nat.le_refl _) (by omega)).of_eq (List.take_of_length_le (by have := hfin.out.2.2; omega)))
        have hlen := hfin.out.2.2
        have HL := Aside0.mk hlen
        clear hlen
        go_wp2_with fail
        have h := trim_calls (cs.set b.length cy) (some ⟨w.heap.size, 0, none⟩) (b.length + 1) _ hfin.out.1 hrd.out
        rw [HL.out] at h
        refine h.mono ?_
        rintro e w2 ⟨A2, c2, rfl, hr2, hB2⟩
        go_wp2
        go_ret
        exact ⟨A2, c2, by rw [hfin.out.2.1]; rfl, by rw [← hfin.out.2.1]; exact hr2, (below_set hB.out (Nat.le_refl _)).trans (hB2.mono (by have := hB.out.size; simpa using this))⟩
  · have hb : decide (a.length < b.length) = false := decide_eq_false hlt
    have hmk := fun w => mk_run (a.length + 1) (by omega) ((a.length : Int) + 1) (by omega) w
    go_enter Try.func111, Try.ntmps111
    go_wp2_with fail
    go_loopw [6, 23] (fun v6 v23 wr => ∃ (i : Nat) (cy : Int) (cs : List Int), i ≤ a.length ∧ v23 = .int .i64 i ∧ v6 = .int .u64 cy ∧ Aside0 (AddInv a b i cy cs) ∧ Aside0 (wr.heap[w.heap.size]? = some (.cells (lc cs) 76 (0, 0))) ∧ Aside0 (Below w.heap.size w wr)) (fun _ v23 _ => a.length - (intOf v23).toNat)
    case atStart => exact ⟨0, 0, _, by omega, rfl, rfl, ⟨AddInv.start _ _⟩, ⟨blk_new w _⟩, ⟨below_alloc (Below.refl _ _) _⟩⟩
    case round =>
      obtain ⟨i, cy, cs, hi, rfl, rfl, hI, hblk, hB⟩ := hrel
      have hcl := hI.out.1
      have hc0 := hI.out.2.2.1
      have hc1 := hI.out.2.2.2.1
      have hfz := blk_frozen hblk.out i
      have hcw : wr.cell? ⟨w.heap.size, i, none⟩ = some (.int .u64 (rd cs i)) := (blk_cell hblk.out i).trans (lc_at (by omega))
      clear hmk
      by_cases hil : i < a.length
      · obtain ⟨ad, rfl, hcell⟩ := Kd.at_int (HR.out.below hB.out).2 (i : Int) (by omega) (by omega)
        simp only [Int.toNat_natCast] at hcell
        have hx := Aside0.mk (DA.out.rd (i := (i : Int)) (by omega) (by omega))
        have st1 : Aside0 (∀ s cy' : Int, b.length ≤ i → 0 ≤ s → s < 18446744073709551616 → 0 ≤ cy' → cy' ≤ 1 → s + 18446744073709551616 * cy' = rd a i + cy → AddInv a b (i + 1) cy' (cs.set i s)) := ⟨fun s cy' h1 h2 h3 h4 h5 h6 => hI.out.step1 hil h1 h2 h3 h4 h5 h6 hx.out.1⟩
        have st2 : Aside0 (∀ s cy' : Int, i < b.length → 0 ≤ s → s < 18446744073709551616 → 0 ≤ cy' → cy' ≤ 1 → s + 18446744073709551616 * cy' = rd a i + rd b i + cy → AddInv a b (i + 1) cy' (cs.set i s)) := ⟨fun s cy' h1 h2 h3 h4 h5 h6 => hI.out.step2 hil h1 h2 h3 h4 h5 h6 hx.out.1 (DB.out.rd (i := (i : Int)) (by omega) (by omega)).1⟩
        generalize rd a i = x at *
        obtain ⟨s, hs⟩ : ∃ s, IntKind.u64.wrap (x + cy) = s := ⟨_, rfl⟩
        have hS := Aside0.mk (add_limb hx.out.1 hx.out.2 hc0 hc1 hs)
        have hs01 : Aside0 (0 ≤ s ∧ s < 18446744073709551616) := ⟨by have := hx.out; rcases hS.out with h | h <;> (rw [u64_wrap] at hs; omega)⟩
        by_cases hib : i < b.length
        · have hib1 : decide (i < b.length) = true := decide_eq_true hib
          have hib2 : decide ((i : Int) < (b.length : Int)) = true := decide_eq_true (by omega)
          obtain ⟨ad', rfl, hcell'⟩ := Kd.at_int (HR'.out.below hB.out).2 (i : Int) (by omega) (by omega)
          simp only [Int.toNat_natCast] at hcell'
          have hy := Aside0.mk (DB.out.rd (i := (i : Int)) (by omega) (by omega))
          generalize rd b i = y at *
          obtain ⟨r, hr⟩ : ∃ r, IntKind.u64.wrap (s + y) = r := ⟨_, rfl⟩
          have hR := Aside0.mk (add_limb2 hy.out.1 hy.out.2 hs01.out.1 hs01.out.2 hr)
          by_cases c1 : s < x
          · have c1b : decide (s < x) = true := decide_eq_true c1
            have c2 : ¬ r < y := by have := hR.out; have := hS.out; have := hy.out; omega
            have c2b : decide (r < y) = false := decide_eq_false c2
            have fin := Aside0.mk (st2.out r 1 hib (by have := hR.out; omega) (by have := hR.out; omega) (by omega) (by omega) (by have := hR.out; have := hS.out; have := hx.out; omega))
            clear c1 c2
            go_wp2
            go_roundw
            case rel => exact ⟨i + 1, 1, cs.set i r, by omega, by go_num, rfl, fin, ⟨blk_put hblk.out i _ (lc_set cs i r)⟩, ⟨below_set hB.out (Nat.le_refl _)⟩⟩
            case measure => simp [intOf]; omega
          · have c1b : decide (s < x) = false := decide_eq_false c1
            by_cases c2 : r < y
            · have c2b : decide (r < y) = true := decide_eq_true c2
              have fin := Aside0.mk (st2.out r 1 hib (by have := hR.out; omega) (by have := hR.out; omega) (by omega) (by omega) (by have := hR.out; have := hS.out; have := hx.out; omega))
              clear c1 c2
              go_wp2
              go_roundw
              case rel => exact ⟨i + 1, 1, cs.set i r, by omega, by go_num, rfl, fin, ⟨blk_put hblk.out i _ (lc_set cs i r)⟩, ⟨below_set hB.out (Nat.le_refl _)⟩⟩
              case measure => simp [intOf]; omega
            · have c2b : decide (r < y) = false := decide_eq_false c2
              have fin := Aside0.mk (st2.out r 0 hib (by have := hR.out; omega) (by have := hR.out; omega) (by omega) (by omega) (by have := hR.out; have := hS.out; have := hx.out; omega))
              clear c1 c2
              go_wp2
              go_roundw
              case rel => exact ⟨i + 1, 0, cs.set i r, by omega, by go_num, rfl, fin, ⟨blk_put hblk.out i _ (lc_set cs i r)⟩, ⟨below_set hB.out (Nat.le_refl _)⟩⟩
              case measure => simp [intOf]; omega
        · have hib1 : decide (i < b.length) = false := decide_eq_false hib
          have hib2 : decide ((i : Int) < (b.length : Int)) = false := decide_eq_false (by omega)
          by_cases c1 : s < x
          · have c1b : decide (s < x) = true := decide_eq_true c1
            have fin := Aside0.mk (st1.out s 1 (by omega) hs01.out.1 hs01.out.2 (by omega) (by omega) (by have := hS.out; have := hx.out; omega))
            clear c1
            go_wp2
            go_roundw
            case rel => exact ⟨i + 1, 1, cs.set i s, by omega, by go_num, rfl, fin, ⟨blk_put hblk.out i _ (lc_set cs i s)⟩, ⟨below_set hB.out (Nat.le_refl _)⟩⟩
            case measure => simp [intOf]; omega
          · have c1b : decide (s < x) = false := decide_eq_false c1
            have fin := Aside0.mk (st1.out s 0 (by omega) hs01.out.1 hs01.out.2 (by omega) (by omega) (by have := hS.out; have := hx.out; omega))
            clear c1
            go_wp2
            go_roundw
            case rel => exact ⟨i + 1, 0, cs.set i s, by omega, by go_num, rfl, fin, ⟨blk_put hblk.out i _ (lc_set cs i s)⟩, ⟨below_set hB.out (Nat.le_refl _)⟩⟩
            case measure => simp [intOf]; omega
      · obtain rfl : i = a.length := by omega
        have hfin := Aside0.mk (hI.out.done (by omega))
        have hnb := Aside0.mk (blk_put hblk.out a.length (.int .u64 cy) (lc_set cs a.length cy))
        have hrd := Aside0.mk ((Rd.of_block hnb.out (n := a.length + 1) (c := a.length + 1) (by have := hfin.out.2.2; omega) (Nat.le_refl _) (by omega)).of_eq (List.take_of_length_le (by have := hfin.out.2.2; omega)))
        have hlen := hfin.out.2.2
        have HL := Aside0.mk hlen
        clear hlen
        go_wp2_with fail
        have h := trim_calls (cs.set a.length cy) (some ⟨w.heap.size, 0, none⟩) (a.length + 1) _ hfin.out.1 hrd.out
        rw [HL.out] at h
        refine h.mono ?_
        rintro e w2 ⟨A2, c2, rfl, hr2, hB2⟩
        go_wp2
        go_ret
        exact ⟨A2, c2, by rw [hfin.out.2.1]; rfl, by rw [← hfin.out.2.1]; exact hr2, (below_set hB.out (Nat.le_refl _)).trans (hB2.mono (by have := hB.out.size; simpa using this))⟩
end
end Go.Proofs.Ythokdnheijnmmaa.Limbs
