/- Rows of limbs: what a prefix is worth, and what is written, limb by limb. -/
import Derived.Test.YthokdnheijnmmaaHBigBase
set_option linter.unusedVariables false
namespace Go.Proofs.YthokdnheijnmmaaW.Big
open Go.RowKit Go.Proofs.YthokdnheijnmmaaW.PrintWords Go.Proofs.YthokdnheijnmmaaW.PrintMore Go.Proofs.YthokdnheijnmmaaW.Aid

abbrev B64 : Nat := 18446744073709551616
theorem val_append (a b : List Int) : val (a ++ b) = val a + 18446744073709551616 ^ a.length * val b := by
  induction a with
  | nil => simp [val]
  | cons x a ih =>
    simp only [List.cons_append, val, ih, List.length_cons, Nat.pow_succ, Nat.mul_add]
    rw [Nat.mul_comm (18446744073709551616 ^ a.length) 18446744073709551616, Nat.mul_assoc, Nat.add_assoc]
theorem val_zeros (n : Nat) : val (List.replicate n 0) = 0 := by
  induction n with
  | zero => rfl
  | succ n ih => simp [List.replicate_succ, val, ih]
theorem Dig.take {l : List Int} (h : Dig l) (n : Nat) : Dig (l.take n) := fun x hx => h x (List.mem_of_mem_take hx)
theorem Dig.drop {l : List Int} (h : Dig l) (n : Nat) : Dig (l.drop n) := fun x hx => h x (List.mem_of_mem_drop hx)
theorem Dig.append {a b : List Int} (h : Dig a) (h' : Dig b) : Dig (a ++ b) := fun x hx => (List.mem_append.1 hx).elim (h x) (h' x)
theorem Dig.set {l : List Int} (h : Dig l) (i : Nat) {v : Int} (h0 : 0 ≤ v) (h1 : v < 18446744073709551616) : Dig (l.set i v) := fun x hx => by
  rcases List.mem_or_eq_of_mem_set hx with hx | rfl
  · exact h x hx
  · exact ⟨h0, h1⟩
theorem Dig.zeros (n : Nat) : Dig (List.replicate n 0) := fun x hx => by
  have := List.eq_of_mem_replicate hx
  omega
theorem Dig.rd {l : List Int} (h : Dig l) {i : Int} (h0 : 0 ≤ i) (h1 : i < (l.length : Int)) : 0 ≤ rd l i ∧ rd l i < 18446744073709551616 := h _ (rd_mem h0 h1)
theorem rd_nat {l : List Int} {i : Nat} (h : i < l.length) : rd l (i : Int) = l[i] := by
  obtain ⟨hj, e⟩ := rd_at (l := l) (i := (i : Int)) (by omega) (by omega)
  rw [e]; simp
theorem take_succ_rd {l : List Int} {i : Nat} (h : i < l.length) : l.take (i + 1) = l.take i ++ [rd l i] := by
  rw [rd_nat h, List.take_succ_eq_append_getElem h]
theorem val_take_succ {l : List Int} {i : Nat} (h : i < l.length) : val (l.take (i + 1)) = val (l.take i) + 18446744073709551616 ^ i * (rd l i).toNat := by
  rw [take_succ_rd h, val_append]
  simp [val, Nat.min_eq_left (Nat.le_of_lt h)]
theorem val_lt {l : List Int} (h : Dig l) : val l < 18446744073709551616 ^ l.length := by
  induction l with
  | nil => simp [val]
  | cons x l ih =>
    have hx := h x (by simp)
    have := ih (fun y hy => h y (List.mem_cons_of_mem _ hy))
    rw [List.length_cons, Nat.pow_succ, val]
    have : 18446744073709551616 * (val l + 1) ≤ 18446744073709551616 ^ l.length * 18446744073709551616 := by rw [Nat.mul_comm]; exact Nat.mul_le_mul_right _ (by omega)
    omega
theorem set_take {l : List Int} {i : Nat} (v : Int) (h : i < l.length) : (l.set i v).take (i + 1) = l.take i ++ [v] := by
  rw [List.take_succ_eq_append_getElem (by simpa using h), List.getElem_set_self, List.take_set_of_le (Nat.le_refl _)]
theorem val_set_take {l : List Int} {i : Nat} {v : Int} (h : i < l.length) : val ((l.set i v).take (i + 1)) = val (l.take i) + 18446744073709551616 ^ i * v.toNat := by
  rw [set_take v h, val_append]
  simp [val, Nat.min_eq_left (Nat.le_of_lt h)]
theorem rd_set_ne {l : List Int} {i j : Nat} (v : Int) (h : i ≠ j) : rd (l.set i v) (j : Int) = rd l (j : Int) := by
  unfold rd
  rw [List.getD_eq_getElem?_getD, List.getD_eq_getElem?_getD, Int.toNat_natCast, List.getElem?_set_ne h]
theorem rd_set_eq {l : List Int} {i : Nat} (v : Int) (h : i < l.length) : rd (l.set i v) (i : Int) = v := by
  rw [rd_nat (by simpa using h), List.getElem_set_self]
theorem rd_zeros {n i : Nat} : rd (List.replicate n 0) (i : Int) = 0 := by
  unfold rd
  rw [List.getD_eq_getElem?_getD, Int.toNat_natCast]
  by_cases h : i < n
  · rw [List.getElem?_replicate, if_pos h]; rfl
  · rw [List.getElem?_replicate, if_neg h]; rfl
/-- The limbs without the noughts on top. -/
theorem limbs_of_take {l : List Int} (h : Dig l) {n : Nat} (hn : n ≤ l.length) (hz : ∀ i, n ≤ i → i < l.length → rd l (i : Int) = 0) (ht : 0 < n → rd l ((n - 1 : Nat) : Int) ≠ 0) : l.take n = limbs (val l) := by
  have e : l = l.take n ++ List.replicate (l.length - n) 0 := by
    refine List.ext_getElem (by simp; omega) (fun j h1 h2 => ?_)
    by_cases hj : j < n
    · rw [List.getElem_append_left (by simp; omega)]
      simp
    · rw [List.getElem_append_right (by simp; omega), List.getElem_replicate, ← rd_nat h1]
      exact hz j (by omega) h1
  have hv : val l = val (l.take n) := by
    have := congrArg val e
    rw [val_append, val_zeros] at this
    simpa using this
  rw [hv]
  refine Canon.limbs ⟨h.take n, fun hne => ?_⟩
  have hn0 : 0 < n := by
    rcases Nat.eq_zero_or_pos n with r | r
    · subst r; simp at hne
    · exact r
  have := ht hn0
  rw [rd_nat (by omega)] at this
  rw [List.getLast_eq_getElem]
  simp only [List.length_take, Nat.min_eq_left hn, List.getElem_take]
  exact this
/-- A canonical row and its number. -/
theorem canon_val {l : List Int} (h : Canon l) : limbs (val l) = l := h.limbs.symm
/-- A block of limbs. -/
def lc (l : List Int) : Array Value := (l.map (Value.int .u64)).toArray
theorem lc_at {l : List Int} {i : Nat} (h : i < l.length) : (lc l)[i]? = some (.int .u64 (rd l i)) := by
  rw [rd_nat h]
  simp [lc, h]
theorem lc_set (l : List Int) (i : Nat) (v : Int) : (lc l).setIfInBounds i (.int .u64 v) = lc (l.set i v) := by
  simp [lc, List.map_set]
theorem lc_size (l : List Int) : (lc l).size = l.length := by simp [lc]
/-- A block that is known reads as its limbs. -/
theorem Rd.of_block {w : World} {g : Nat} {t : TypeId} {l : List Int} (h : w.heap[g]? = some (.cells (lc l) t (0, 0))) {n c : Nat} (hn : n ≤ l.length) (hc : n ≤ c) (hm : n ≤ 9223372036854775807) : Rd w (l.take n) (some ⟨g, 0, none⟩) c := by
  have hl : (l.take n).length = n := by simp; omega
  refine ⟨by omega, ?_⟩
  refine ⟨rfl, by omega, fun _ => ⟨_, rfl, fun j p hj => ⟨[.int .u64 p], rfl, rfl, fun i u hu => ?_⟩⟩⟩
  have hi : i = 0 := by
    cases i with
    | zero => rfl
    | succ i => simp at hu
  subst hi
  simp at hu
  subst hu
  have hjn : j < n := by have := (List.getElem?_eq_some_iff.1 hj).1; omega
  have e : p = rd l (j : Int) := by
    rw [rd_nat (by omega)]
    rw [List.getElem?_take_of_lt hjn, List.getElem?_eq_getElem (by omega)] at hj
    exact (Option.some.inj hj).symm
  have := (blk_cell h j).trans (lc_at (l := l) (i := j) (by omega))
  rw [e, ← this]
  show w.cell? ((⟨g, 0, none⟩ : Addr).add (j * 1 + 0)) = _
  congr 1
  simp [Addr.add]
  omega
theorem Rd.pre {w : World} {l : List Int} {A : Option Addr} {c n c' : Nat} (h : Rd w l A c) (hn : n ≤ l.length) (hc : n ≤ c') : Rd w (l.take n) A c' := by
  have hl : (l.take n).length = n := by simp; omega
  refine ⟨by omega, ?_⟩
  refine ⟨rfl, by have := h.2.2.1; omega, fun hpos => ?_⟩
  obtain ⟨ad, hA, hc⟩ := h.2.2.2 (by omega)
  refine ⟨ad, hA, fun j p hj => hc j p ?_⟩
  have hjn : j < n := by have := (List.getElem?_eq_some_iff.1 hj).1; omega
  rwa [List.getElem?_take_of_lt hjn] at hj
theorem Rd.of_eq {w : World} {l l' : List Int} {A : Option Addr} {c : Nat} (h : Rd w l A c) (e : l = l') : Rd w l' A c := e ▸ h
end Go.Proofs.YthokdnheijnmmaaW.Big
