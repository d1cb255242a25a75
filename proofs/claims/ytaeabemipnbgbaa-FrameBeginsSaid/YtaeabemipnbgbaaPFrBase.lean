/- What the program's frame functions answer, over lists of bytes. -/
import Derived.Test.YtaeabemipnbgbaaQFrx7
import Derived.Test.YtaeabemipnbgbaaQFrx8
import Derived.Laws.BitsLemmas
set_option linter.unusedVariables false
set_option linter.unusedSimpArgs false
namespace Go.Proofs.Ytaeabemipnbgbaa.PFr
open Go.RowKit Go.Proofs.Ytaeabemipnbgbaa.QFr Go.Proofs.YtaeabemipnbgbaaW.PrintWords Go.Proofs.YtaeabemipnbgbaaW.PrintMore Go.Proofs.YtaeabemipnbgbaaW.Aid

def Bytes (b : List Int) : Prop := ∀ x ∈ b, 0 ≤ x ∧ x ≤ 255
theorem Bytes.take {b : List Int} (h : Bytes b) (n : Nat) : Bytes (b.take n) := fun x hx => h x (List.mem_of_mem_take hx)
theorem Bytes.drop {b : List Int} (h : Bytes b) (n : Nat) : Bytes (b.drop n) := fun x hx => h x (List.mem_of_mem_drop hx)
theorem Bytes.append {a b : List Int} (h : Bytes a) (h' : Bytes b) : Bytes (a ++ b) := fun x hx => by
  rcases List.mem_append.1 hx with hx | hx
  · exact h x hx
  · exact h' x hx
theorem Bytes.rd {b : List Int} (h : Bytes b) {i : Int} (h0 : 0 ≤ i) (h1 : i < (b.length : Int)) : 0 ≤ rd b i ∧ rd b i ≤ 255 := h _ (rd_mem h0 h1)
theorem bytes_wf {b : List Int} (h : ∀ x ∈ b, (Lit.int .u8 x).wf = true) : Bytes b := fun x hx => wf_u8 (h x hx)
theorem sum_f {b : List Int} (h : Bytes b) : crc_Sum.f b = some (Crc.crcOf b 65535) := by
  unfold crc_Sum.f
  rw [if_pos]
  rw [List.all_eq_true]
  intro x hx
  have := h x hx
  simp
  exact this
theorem clone_f {b : List Int} (h : b.length ≤ 1000000) : slices_Clone_byte_byte.f b = some b := by
  unfold slices_Clone_byte_byte.f
  rw [if_pos (by omega)]
theorem wraps_u16 (n : Int) (h₀ : 0 ≤ n) (h₁ : n < 2 ^ 16) : IntKind.u16.wrap n = n := by rw [u16_wrap]; omega
theorem or16 {a c : Int} (ha : 0 ≤ a) (ha' : a ≤ 255) (hc : 0 ≤ c) (hc' : c ≤ 255) : Go.bits .or .u16 (IntKind.u16.wrap (a * 256)) (IntKind.u16.wrap c) = a * 256 + c := by
  rw [wraps_u16 _ (by omega) (by omega), wraps_u16 _ (by omega) (by omega)]
  exact bits_join .u16 16 (by decide) wraps_u16 8 (a * 256) c (by omega) (by omega) (by omega) hc (by omega) (by omega)
theorem or16z {c : Int} (hc : 0 ≤ c) (hc' : c ≤ 255) : Go.bits .or .u16 (IntKind.u16.wrap (0 * 256)) (IntKind.u16.wrap c) = c := by
  have := or16 (a := 0) (c := c) (by omega) (by omega) hc hc'
  rw [this]; omega

theorem seg1 {b : List Int} {i : Nat} (h : i < b.length) : (b.take (i + 1)).drop i = [rd b i] := by
  obtain ⟨hj, e⟩ := rd_at (l := b) (i := (i : Int)) (by omega) (by omega)
  rw [e, List.take_succ_eq_append_getElem h, List.drop_append_of_le_length (by simp; omega), List.drop_of_length_le (by simp; omega)]
  simp
theorem seg2 {b : List Int} {i : Nat} (h : i + 1 < b.length) : (b.take (i + 2)).drop i = [rd b i, rd b (i + 1 : Nat)] := by
  have e1 := seg1 (b := b) (i := i) (by omega)
  have e2 := seg1 (b := b) (i := i + 1) (by omega)
  have e3 : b.take (i + 2) = b.take (i + 1) ++ [rd b (i + 1 : Nat)] := by
    obtain ⟨hj, e⟩ := rd_at (l := b) (i := ((i + 1 : Nat) : Int)) (by omega) (by omega)
    rw [e, List.take_succ_eq_append_getElem h]
    rfl
  rw [e3, List.drop_append_of_le_length (by simp; omega), e1]
  rfl

theorem take8_no {b : List Int} {a : Int} (h0 : 0 ≤ a) (ha : a ≤ 100000) (h : (b.length : Int) < a + 1) : Ev (fun k => frame_take_uint8.f k b a 1) (0, false) := by
  refine Ev.pure fun k => ?_
  unfold frame_take_uint8.f
  rw [wrap64_id (by omega) (by omega), if_pos (by omega)]
theorem take8_yes {b : List Int} (hb : Bytes b) {a : Int} (h0 : 0 ≤ a) (ha : a ≤ 100000) (h : a + 1 ≤ (b.length : Int)) : Ev (fun k => frame_take_uint8.f k b a 1) (rd b a, true) := by
  have e : (b.take (a + 1).toNat).drop a.toNat = [rd b a] := by
    have := seg1 (b := b) (i := a.toNat) (by omega)
    rw [show (a + 1).toNat = a.toNat + 1 by omega, this, show ((a.toNat : Nat) : Int) = a by omega]
  have hx := hb.rd h0 (show a < (b.length : Int) by omega)
  unfold frame_take_uint8.f
  simp only [wrap64_id (x := a + 1) (by omega) (by omega), if_neg (show ¬ a + 1 > (b.length : Int) by omega), h0, if_true, (show a ≤ a + 1 by omega), h, e]
  refine Ev.shift ?_
  have r0 : rd [rd b a] 0 = rd b a := rfl
  have w1 : wrap64 (0 + 1) = 1 := wrap64_id (by omega) (by omega)
  simp only [frame_take_uint8.l0, List.length_cons, List.length_nil, r0, w1, or16z hx.1 hx.2]
  refine Ev.shift ?_
  refine Ev.pure fun k => ?_
  simp [frame_take_uint8.l0]
  omega
theorem take16_no {b : List Int} {a : Int} (h0 : 0 ≤ a) (ha : a ≤ 100000) (h : (b.length : Int) < a + 2) : Ev (fun k => frame_take_uint16.f k b a 2) (0, false) := by
  refine Ev.pure fun k => ?_
  unfold frame_take_uint16.f
  rw [wrap64_id (by omega) (by omega), if_pos (by omega)]
theorem take16_yes {b : List Int} (hb : Bytes b) {a : Int} (h0 : 0 ≤ a) (ha : a ≤ 100000) (h : a + 2 ≤ (b.length : Int)) : Ev (fun k => frame_take_uint16.f k b a 2) (rd b a * 256 + rd b (a + 1), true) := by
  have e : (b.take (a + 2).toNat).drop a.toNat = [rd b a, rd b (a + 1)] := by
    have := seg2 (b := b) (i := a.toNat) (by omega)
    rw [show (a + 2).toNat = a.toNat + 2 by omega, this, show ((a.toNat : Nat) : Int) = a by omega, show ((a.toNat + 1 : Nat) : Int) = a + 1 by omega]
  have hx := hb.rd h0 (show a < (b.length : Int) by omega)
  have hy := hb.rd (i := a + 1) (by omega) (show a + 1 < (b.length : Int) by omega)
  unfold frame_take_uint16.f
  simp only [wrap64_id (x := a + 2) (by omega) (by omega), if_neg (show ¬ a + 2 > (b.length : Int) by omega), h0, if_true, (show a ≤ a + 2 by omega), h, e]
  have r0 : rd [rd b a, rd b (a + 1)] 0 = rd b a := rfl
  have r1 : rd [rd b a, rd b (a + 1)] 1 = rd b (a + 1) := rfl
  have w1 : wrap64 (0 + 1) = 1 := wrap64_id (by omega) (by omega)
  have w2 : wrap64 (1 + 1) = 2 := wrap64_id (by omega) (by omega)
  refine Ev.shift ?_
  simp only [frame_take_uint16.l0, List.length_cons, List.length_nil, r0, w1, or16z hx.1 hx.2]
  refine Ev.shift ?_
  simp only [frame_take_uint16.l0, List.length_cons, List.length_nil, r1, w2, or16 hx.1 hx.2 hy.1 hy.2]
  refine Ev.shift ?_
  refine Ev.pure fun k => ?_
  simp [frame_take_uint16.l0]

/-- The payload's length, as the second and third byte tell it. -/
def L (b : List Int) : Int := rd b 1 * 256 + rd b 2
/-- What the bytes' look tells. -/
def lookR (b : List Int) : Int × Int × List Int × Int × Bool :=
  if b.length = 0 then (0, 0, [], 0, true)
  else if rd b 0 ≠ 126 ∨ (2 ≤ b.length ∧ 1 < rd b 1) then (0, 0, [], 0, false)
  else if 3 ≤ b.length ∧ 256 < L b then (0, 0, [], 0, false)
  else if 5 ≤ b.length ∧ ¬ (1 ≤ rd b 4 ∧ rd b 4 ≤ 10) then (0, 0, [], 0, false)
  else if b.length < 5 ∨ (b.length : Int) < 7 + L b then (0, 0, [], 0, true)
  else if Crc.crcOf ((b.take (5 + L b).toNat).drop 1) 65535 ≠ rd b (5 + L b) * 256 + rd b (6 + L b) then (0, 0, [], 0, false)
  else (rd b 3, rd b 4, (b.take (5 + L b).toNat).drop 5, 7 + L b, true)
theorem kind_f (a : Int) : frame_kind.f a = some (decide (1 ≤ a) && decide (a ≤ 10)) := by
  unfold frame_kind.f
  by_cases h : 1 ≤ a
  · rw [if_pos h, decide_eq_true h]; rfl
  · rw [if_neg h, decide_eq_false h]; rfl
theorem look_ev {b : List Int} (hb : Bytes b) (hlen : b.length ≤ 100000) : Ev (fun k => frame_look.f k b) (lookR b) := by
  unfold frame_look.f lookR
  by_cases hl0 : b.length = 0
  · simp only [hl0]; exact Ev.pure fun k => rfl
  simp only [hl0, (show ¬ ((b.length : Int) = 0) by omega), if_false, (show (0 : Int) < (b.length : Int) by omega), if_true]
  have no : Ev (fun k => frame_look.j0 k b true) (0, 0, [], 0, false) := by
    refine Ev.shift ?_
    simp only [frame_look.j0, if_true]
    exact Ev.pure fun k => rfl
  -- the test of the sum
  have s3 : ∀ len sum : Int, 0 ≤ len → 5 ≤ b.length → 7 + len ≤ (b.length : Int) → len ≤ 256 → 1 ≤ rd b 4 → rd b 4 ≤ 10 →
      Ev (fun k => frame_look.j3 k b (rd b 4) (5 + len) sum false) (if Crc.crcOf ((b.take (5 + len).toNat).drop 1) 65535 ≠ sum then (0, 0, [], 0, false) else (rd b 3, rd b 4, (b.take (5 + len).toNat).drop 5, 7 + len, true)) := by
    intro len sum h0 h5 h7 h256 hk0 hk1
    refine Ev.shift ?_
    have r3 := hb.rd (i := 3) (by omega) (by omega)
    simp only [frame_look.j3, Bool.false_eq_true, if_false, (show (1 : Int) ≤ 5 + len by omega), if_true, (show 5 + len ≤ (b.length : Int) by omega), sum_f ((hb.take _).drop 1), Option.bind_some,
      (show (3 : Int) < (b.length : Int) by omega), (show (5 : Int) ≤ 5 + len by omega), clone_f (b := (b.take (5 + len).toNat).drop 5) (by simp; omega)]
    rw [wrap64_id (x := rd b 3) (by omega) (by omega), wrap64_id (x := rd b 4) (by omega) (by omega), wrap64_id (x := 5 + len + 2) (by omega) (by omega)]
    refine Ev.pure fun k => ?_
    by_cases hs : Crc.crcOf ((b.take (5 + len).toNat).drop 1) 65535 = sum
    · have e : 5 + len + 2 = 7 + len := by omega
      simp only [hs, if_true, ne_eq, not_true_eq_false, if_false, e]
    · simp only [hs, if_false, ne_eq, not_false_eq_true, if_true]
  -- behind the length
  have s1 : ∀ len : Int, 0 ≤ len → len ≤ 256 → (3 ≤ b.length → len = L b) →
      Ev (fun k => frame_look.j1 k b len false) (if 5 ≤ b.length ∧ ¬ (1 ≤ rd b 4 ∧ rd b 4 ≤ 10) then (0, 0, [], 0, false) else if b.length < 5 ∨ (b.length : Int) < 7 + L b then (0, 0, [], 0, true)
        else if Crc.crcOf ((b.take (5 + L b).toNat).drop 1) 65535 ≠ rd b (5 + L b) * 256 + rd b (6 + L b) then (0, 0, [], 0, false) else (rd b 3, rd b 4, (b.take (5 + L b).toNat).drop 5, 7 + L b, true)) := by
    intro len h0 h256 hL
    refine Ev.shift ?_
    simp only [frame_look.j1, Bool.false_eq_true, if_false]
    have w5 : wrap64 (5 + wrap64 len) = 5 + len := by rw [wrap64_id (x := len) (by omega) (by omega), wrap64_id (by omega) (by omega)]
    by_cases h5 : 5 ≤ b.length
    · have hLL := hL (by omega)
      subst hLL
      have r4 := hb.rd (i := 4) (by omega) (by omega)
      refine Ev.bind (take8_yes hb (a := 4) (by omega) (by omega) (by omega)) ?_
      simp only [if_true, kind_f, Option.bind_some, wrap64_id (x := rd b 4) (by omega) (by omega)]
      by_cases hk : 1 ≤ rd b 4 ∧ rd b 4 ≤ 10
      · simp only [decide_eq_true hk.1, decide_eq_true hk.2, Bool.and_self, Bool.not_true]
        refine Ev.shift ?_
        simp only [frame_look.j2, Bool.false_eq_true, if_false, w5]
        rw [if_neg (by simp [hk])]
        by_cases h7 : 7 + L b ≤ (b.length : Int)
        · refine Ev.bind (take16_yes hb (a := 5 + L b) (by omega) (by omega) (by omega)) ?_
          rw [if_neg (by omega)]
          simp only [if_true, Bool.not_true]
          have e6 : 5 + L b + 1 = 6 + L b := by omega
          rw [e6]
          exact s3 (L b) _ h0 h5 h7 h256 hk.1 hk.2
        · refine Ev.bind (take16_no (a := 5 + L b) (by omega) (by omega) (by omega)) ?_
          rw [if_pos (by omega)]
          simp only [if_true, Bool.not_false]
          refine Ev.shift ?_
          simp only [frame_look.j3, if_true]
          exact Ev.pure fun k => rfl
      · rw [if_pos ⟨h5, hk⟩]
        have : (decide (1 ≤ rd b 4) && decide (rd b 4 ≤ 10)) = false := by
          rw [← Bool.not_eq_true]; simpa using hk
        simp only [this, Bool.not_false]
        refine Ev.shift ?_
        simp only [frame_look.j2, if_true]
        exact Ev.pure fun k => rfl
    · refine Ev.bind (take8_no (a := 4) (by omega) (by omega) (by omega)) ?_
      simp only [Bool.false_eq_true, if_false]
      refine Ev.shift ?_
      simp only [frame_look.j2, Bool.false_eq_true, if_false, w5]
      rw [if_neg (fun h => h5 h.1), if_pos (.inl (by omega))]
      refine Ev.bind (take16_no (a := 5 + len) (by omega) (by omega) (by omega)) ?_
      refine Ev.shift ?_
      simp only [frame_look.j3, if_true]
      exact Ev.pure fun k => rfl
  -- behind the first byte
  have s0 : (2 ≤ b.length → rd b 1 ≤ 1) → Ev (fun k => frame_look.j0 k b false) (if 3 ≤ b.length ∧ 256 < L b then (0, 0, [], 0, false) else if 5 ≤ b.length ∧ ¬ (1 ≤ rd b 4 ∧ rd b 4 ≤ 10) then (0, 0, [], 0, false) else if b.length < 5 ∨ (b.length : Int) < 7 + L b then (0, 0, [], 0, true)
        else if Crc.crcOf ((b.take (5 + L b).toNat).drop 1) 65535 ≠ rd b (5 + L b) * 256 + rd b (6 + L b) then (0, 0, [], 0, false) else (rd b 3, rd b 4, (b.take (5 + L b).toNat).drop 5, 7 + L b, true)) := by
    intro h1
    refine Ev.shift ?_
    simp only [frame_look.j0, Bool.false_eq_true, if_false]
    by_cases h3 : 3 ≤ b.length
    · refine Ev.bind (take16_yes hb (a := 1) (by omega) (by omega) (by omega)) ?_
      have r1 := hb.rd (i := 1) (by omega) (by omega)
      have r2 := hb.rd (i := 2) (by omega) (by omega)
      have e : rd b 1 * 256 + rd b (1 + 1) = L b := rfl
      simp only [if_true, e]
      by_cases hL : 256 < L b
      · rw [if_pos ⟨h3, hL⟩]
        simp only [decide_eq_true (p := L b > 256) hL]
        refine Ev.shift ?_
        simp only [frame_look.j1, if_true]
        exact Ev.pure fun k => rfl
      · rw [if_neg (fun h => hL h.2)]
        simp only [decide_eq_false (p := L b > 256) hL]
        exact s1 (L b) (by unfold L; omega) (by omega) (fun _ => rfl)
    · refine Ev.bind (take16_no (a := 1) (by omega) (by omega) (by omega)) ?_
      simp only [Bool.false_eq_true, if_false]
      rw [if_neg (fun h => h3 h.1)]
      exact s1 0 (by omega) (by omega) (fun h => absurd h h3)
  by_cases h2 : 2 ≤ b.length
  · refine Ev.bind (take8_yes hb (a := 1) (by omega) (by omega) (by omega)) ?_
    by_cases h0 : rd b 0 = 126
    · simp only [h0, if_true, ne_eq, not_true_eq_false, false_or, h2, true_and]
      by_cases h1 : 1 < rd b 1
      · simp only [h1, if_true, gt_iff_lt, decide_true]
        exact no
      · simp only [h1, if_false, gt_iff_lt, decide_false]
        exact s0 (fun _ => by omega)
    · simp only [h0, if_false, ne_eq, not_false_eq_true, true_or, if_true]
      exact no
  · refine Ev.bind (take8_no (a := 1) (by omega) (by omega) (by omega)) ?_
    by_cases h0 : rd b 0 = 126
    · simp only [h0, if_true, Bool.false_eq_true, if_false, ne_eq, not_true_eq_false, false_or, h2, false_and]
      exact s0 (fun h => absurd h h2)
    · simp only [h0, if_false, ne_eq, not_false_eq_true, true_or, if_true]
      exact no
/-- What begins a frame. -/
def begins (b : List Int) : Bool := (lookR b).2.2.2.2
def decR (b : List Int) : Int × Int × List Int × Int × Int := if (lookR b).2.2.2.1 = 0 then (0, 0, [], 0, 1) else ((lookR b).1, (lookR b).2.1, (lookR b).2.2.1, (lookR b).2.2.2.1, 0)
theorem begins_ev {b : List Int} (hb : Bytes b) (hlen : b.length ≤ 100000) : Ev (fun k => frame_Begins.f k b) (begins b) := by
  unfold frame_Begins.f
  exact Ev.bind (look_ev hb hlen) (Ev.pure fun k => rfl)
theorem dec_ev {b : List Int} (hb : Bytes b) (hlen : b.length ≤ 100000) : Ev (fun k => frame_Decode.f k b) (decR b) := by
  unfold frame_Decode.f decR
  refine Ev.bind (look_ev hb hlen) (Ev.pure fun k => ?_)
  split <;> rfl
theorem rd_take {b : List Int} {n : Nat} {i : Int} (h0 : 0 ≤ i) (h : i < n) : rd (b.take n) i = rd b i := by
  unfold rd
  rw [List.getD_eq_getElem?_getD, List.getD_eq_getElem?_getD, List.getElem?_take_of_lt (by omega)]
theorem take_drop_take {b : List Int} {n m j : Nat} (h : n ≤ m) : ((b.take m).take n).drop j = (b.take n).drop j := by
  rw [List.take_take, Nat.min_eq_left h]
/-- Each beginning of what begins a frame does so. -/
theorem begins_take {b : List Int} (hb : Bytes b) {n : Nat} (hn : n ≤ b.length) (h : begins b = true) : begins (b.take n) = true := by
  have hl : (b.take n).length = n := by simp; omega
  unfold begins lookR at h ⊢
  rw [hl]
  by_cases n0 : n = 0
  · rw [if_pos n0]
  rw [if_neg n0]
  rw [if_neg (by omega : ¬ b.length = 0)] at h
  have r0 : rd (b.take n) 0 = rd b 0 := rd_take (by omega) (by omega)
  by_cases c1 : rd b 0 ≠ 126 ∨ (2 ≤ b.length ∧ 1 < rd b 1)
  · rw [if_pos c1] at h; cases h
  rw [if_neg c1] at h
  rw [if_neg (by
    rw [r0]
    rintro (h' | ⟨h2, h'⟩)
    · exact c1 (.inl h')
    · rw [rd_take (by omega) (by omega)] at h'
      exact c1 (.inr ⟨by omega, h'⟩))]
  by_cases c2 : 3 ≤ b.length ∧ 256 < L b
  · rw [if_pos c2] at h; cases h
  rw [if_neg c2] at h
  have eL : 3 ≤ n → L (b.take n) = L b := fun h3 => by unfold L; rw [rd_take (by omega) (by omega), rd_take (by omega) (by omega)]
  rw [if_neg (by rintro ⟨h3, h'⟩; rw [eL h3] at h'; exact c2 ⟨by omega, h'⟩)]
  by_cases c3 : 5 ≤ b.length ∧ ¬ (1 ≤ rd b 4 ∧ rd b 4 ≤ 10)
  · rw [if_pos c3] at h; cases h
  rw [if_neg c3] at h
  rw [if_neg (by rintro ⟨h5, h'⟩; rw [rd_take (by omega) (by omega)] at h'; exact c3 ⟨by omega, h'⟩)]
  by_cases c4 : n < 5 ∨ (n : Int) < 7 + L (b.take n)
  · rw [if_pos c4]
  rw [if_neg c4]
  have h5 : 5 ≤ n := by omega
  rw [eL (by omega)] at c4 ⊢
  have hL0 : 0 ≤ L b := by
    have := hb.rd (i := 1) (by omega) (by omega)
    have := hb.rd (i := 2) (by omega) (by omega)
    unfold L; omega
  rw [if_neg (by omega)] at h
  by_cases c5 : Crc.crcOf ((b.take (5 + L b).toNat).drop 1) 65535 ≠ rd b (5 + L b) * 256 + rd b (6 + L b)
  · rw [if_pos c5] at h; cases h
  rw [take_drop_take (by omega), rd_take (by omega) (by omega), rd_take (by omega) (by omega), if_neg c5]
/-- What begins with a frame. -/
theorem dec_ok {b : List Int} (hb : Bytes b) (h : (decR b).2.2.2.2 = 0) : begins b = true ∧ 7 ≤ (decR b).2.2.2.1 ∧ (decR b).2.2.2.1 ≤ b.length := by
  unfold decR begins at *
  by_cases c0 : (lookR b).2.2.2.1 = 0
  · rw [if_pos c0] at h; cases h
  rw [if_neg c0] at h ⊢
  simp only
  unfold lookR at c0 ⊢
  split at c0
  · exact absurd rfl c0
  rename_i n0
  rw [if_neg n0]
  split at c0
  · exact absurd rfl c0
  rename_i c1
  rw [if_neg c1]
  split at c0
  · exact absurd rfl c0
  rename_i c2
  rw [if_neg c2]
  split at c0
  · exact absurd rfl c0
  rename_i c3
  rw [if_neg c3]
  split at c0
  · exact absurd rfl c0
  rename_i c4
  rw [if_neg c4]
  split at c0
  · exact absurd rfl c0
  rename_i c5
  rw [if_neg c5]
  have hL0 : 0 ≤ L b := by
    have := hb.rd (i := 1) (by omega) (by omega)
    have := hb.rd (i := 2) (by omega) (by omega)
    unfold L; omega
  simp only
  refine ⟨trivial, by omega, by omega⟩
end Go.Proofs.Ytaeabemipnbgbaa.PFr
