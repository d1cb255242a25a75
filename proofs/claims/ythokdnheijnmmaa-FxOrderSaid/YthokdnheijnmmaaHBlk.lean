/- A block of limbs in memory that may be written, and a copy of limbs as such a block. -/
import Derived.Test.YthokdnheijnmmaaHLimbs2
import Derived.Test.YthokdnheijnmmaaHCloneW
set_option linter.unusedVariables false
namespace Go.Proofs.Ythokdnheijnmmaa.Limbs
open Go.RowKit Go.Proofs.YthokdnheijnmmaaW.PrintWords Go.Proofs.YthokdnheijnmmaaW.PrintLast Go.Proofs.YthokdnheijnmmaaW.PrintMore Go.Proofs.YthokdnheijnmmaaW.Aid Go.Proofs.YthokdnheijnmmaaW.Big

/-- A block that holds these limbs first. -/
def Blk (w : World) (g : Nat) (l : List Int) : Prop := ∃ ex : Array Value, w.heap[g]? = some (.cells (lc l ++ ex) 76 (0, 0))
theorem Blk.cell {w : World} {g : Nat} {l : List Int} (h : Blk w g l) {i : Nat} (hi : i < l.length) : w.cell? ⟨g, i, none⟩ = some (.int .u64 (rd l i)) := by
  obtain ⟨ex, h⟩ := h
  refine (blk_cell h i).trans ?_
  rw [Array.getElem?_append_left (by rw [lc_size]; exact hi)]
  exact lc_at hi
theorem Blk.frozen {w : World} {g : Nat} {l : List Int} (h : Blk w g l) (i : Nat) : w.frozen? ⟨g, i, none⟩ = false := by
  obtain ⟨ex, h⟩ := h
  exact blk_frozen h i
theorem Blk.put {w : World} {g : Nat} {l : List Int} (h : Blk w g l) {i : Nat} (hi : i < l.length) (v : Int) : Blk (w.setCell ⟨g, i, none⟩ (.int .u64 v)) g (l.set i v) := by
  obtain ⟨ex, h⟩ := h
  refine ⟨ex, blk_put h i _ ?_⟩
  rw [← lc_set, Array.setIfInBounds_append_left]
  rw [lc_size]; exact hi
theorem Blk.rdn {w : World} {g : Nat} {l : List Int} (h : Blk w g l) {n c : Nat} (hn : n ≤ l.length) (hc : n ≤ c) (hm : n ≤ 9223372036854775807) : Rd w (l.take n) (some ⟨g, 0, none⟩) c := by
  have hl : (l.take n).length = n := by simp; omega
  refine ⟨by omega, ?_⟩
  refine ⟨rfl, by omega, fun _ => ⟨_, rfl, fun j p hj => ⟨[.int .u64 p], rfl, rfl, fun i u hu => ?_⟩⟩⟩
  have hi : i = 0 := by
    cases i with
    | zero => rfl
    | succ i => simp at hu
  subst hi
  simp at hu
  subst hu
  have hjn : j < n := by have := (List.getElem?_eq_some_iff.1 hj).1; omega
  have e : p = rd l (j : Int) := by
    rw [rd_nat (by omega)]
    rw [List.getElem?_take_of_lt hjn, List.getElem?_eq_getElem (by omega)] at hj
    exact (Option.some.inj hj).symm
  have := h.cell (i := j) (by omega)
  rw [e, ← this]
  show w.cell? ((⟨g, 0, none⟩ : Addr).add (j * 1 + 0)) = _
  congr 1
  simp [Addr.add]
  omega
theorem Blk.all {w : World} {g : Nat} {l : List Int} (h : Blk w g l) {c : Nat} (hc : l.length ≤ c) (hm : l.length ≤ 9223372036854775807) : Rd w l (some ⟨g, 0, none⟩) c := (h.rdn (Nat.le_refl _) hc hm).of_eq (List.take_length)
theorem Blk.drop {w : World} {g : Nat} {l : List Int} (h : Blk w g l) {k c : Nat} (hk : k ≤ l.length) (hc : l.length - k ≤ c) (hm : l.length ≤ 9223372036854775807) : Rd w (l.drop k) (some ⟨g, k, none⟩) c := by
  have hl : (l.drop k).length = l.length - k := by simp
  refine ⟨by omega, ?_⟩
  refine ⟨rfl, by omega, fun _ => ⟨_, rfl, fun j p hj => ⟨[.int .u64 p], rfl, rfl, fun i u hu => ?_⟩⟩⟩
  have hi : i = 0 := by
    cases i with
    | zero => rfl
    | succ i => simp at hu
  subst hi
  simp at hu
  subst hu
  have hjn : j < l.length - k := by have := (List.getElem?_eq_some_iff.1 hj).1; omega
  have e : p = rd l ((k + j : Nat) : Int) := by
    rw [rd_nat (by omega)]
    rw [List.getElem?_drop, List.getElem?_eq_getElem (by omega)] at hj
    exact (Option.some.inj hj).symm
  have := h.cell (i := k + j) (by omega)
  rw [e, ← this]
  show w.cell? ((⟨g, k, none⟩ : Addr).add (j * 1 + 0)) = _
  congr 1
  simp [Addr.add]
theorem Blk.below {w w1 : World} {g : Nat} {l : List Int} (h : Blk w g l) (hb : Below w.heap.size w w1) : Blk w1 g l := by
  obtain ⟨ex, h⟩ := h
  refine ⟨ex, ?_⟩
  rw [hb.block g (by exact (Array.getElem?_eq_some_iff.1 h).1)]
  exact h
theorem Blk.new (w : World) (l : List Int) : Blk (w.alloc (.cells (lc l) 76)) w.heap.size l := ⟨#[], by rw [Array.append_empty]; exact blk_new w _⟩
theorem Blk.lt {w : World} {g : Nat} {l : List Int} (h : Blk w g l) : g < w.heap.size := by
  obtain ⟨ex, h⟩ := h
  exact (Array.getElem?_eq_some_iff.1 h).1
/-- What a copy answers. -/
def CloneRet (l : List Int) (w : World) (e : Ending) (w' : World) : Prop :=
  Below w.heap.size w w' ∧ ((l = [] ∧ e = .returned (.slice none 0 0)) ∨ ∃ g c, e = .returned (.slice (some ⟨g, 0, none⟩) l.length c) ∧ w.heap.size ≤ g ∧ l.length ≤ c ∧ l.length ≤ 9223372036854775807 ∧ Blk w' g l)
theorem clone_calls (l : List Int) (A : Option Addr) (c : Nat) (w : World) (hr : Rd w l A c) (hm : l.length ≤ 100000) : Calls Try.prog 107 #[.slice A l.length c] w (CloneRet l w) := by
  refine (CloneW.bytes_calls l A c w hr.2 hr.1 (by omega)).mono ?_
  rintro e w' ⟨v, rfl, hR, hB⟩
  refine ⟨hB, ?_⟩
  have hO := Kd.own_of_R hR
  obtain ⟨h1, h2 | ⟨g, cap, cur, hv, hg, hcur, hn, hcap, hsz, htk⟩⟩ := hO
  · refine .inl ⟨List.length_eq_zero_iff.1 h2.2, by rw [h2.1]⟩
  · refine .inr ⟨g, cap, by rw [hv], hg, hn, by omega, cur.extract l.length cur.size, ?_⟩
    rw [hcur]
    congr 2
    apply Array.ext'
    rw [Array.toList_append, Array.toList_extract]
    simp only [Nat.mul_one] at htk
    have e1 : (lc l).toList = cur.toList.take l.length := by rw [htk]; simp [lc, encs]
    rw [e1]
    have : (cur.toList.drop l.length).take (cur.size - l.length) = cur.toList.drop l.length := List.take_of_length_le (by simp)
    rw [List.extract_eq_take_drop, this, List.take_append_drop]
end Go.Proofs.Ythokdnheijnmmaa.Limbs
