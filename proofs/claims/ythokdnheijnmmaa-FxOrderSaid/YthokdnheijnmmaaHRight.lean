/- Walks of the limbs' functions: right. -/
import Derived.Test.YthokdnheijnmmaaHShift
set_option linter.unusedVariables false
namespace Go.Proofs.Ythokdnheijnmmaa.Limbs
open Go.RowKit Go.Proofs.YthokdnheijnmmaaW.PrintWords Go.Proofs.YthokdnheijnmmaaW.PrintLast Go.Proofs.YthokdnheijnmmaaW.PrintMore Go.Proofs.YthokdnheijnmmaaW.Aid Go.Proofs.YthokdnheijnmmaaW.Big Go.Proofs.Ythokdnheijnmmaa.BitsWalk
theorem Rd.drop {w : World} {l : List Int} {ad : Addr} {c k : Nat} (h : Rd w l (some ad) c) (hk : k ≤ l.length) : Rd w (l.drop k) (some (ad.add k)) (c - k) := by
  have hl : (l.drop k).length = l.length - k := by simp
  refine ⟨by have := h.1; omega, ?_⟩
  refine ⟨rfl, by have := h.2.2.1; omega, fun hpos => ⟨_, rfl, fun j p hj => ?_⟩⟩
  obtain ⟨ad', hA, hc⟩ := h.2.2.2 (by omega)
  cases hA
  rw [List.getElem?_drop] at hj
  obtain ⟨cs, h1, h2, h3⟩ := hc (k + j) p hj
  refine ⟨cs, h1, h2, fun i u hu => ?_⟩
  rw [← h3 i u hu]
  have e : (ad.add k).add (j * (Kd.int .u64).sz + i) = ad.add ((k + j) * (Kd.int .u64).sz + i) := by
    show (ad.add k).add (j * 1 + i) = ad.add ((k + j) * 1 + i)
    rw [Addr.add_add]
    congr 1
    omega
  rw [e]
theorem drop_val {b : List Int} {i : Nat} (h : i < b.length) : val (b.drop i) = (rd b i).toNat + 18446744073709551616 * val (b.drop (i + 1)) := by
  rw [List.drop_eq_getElem_cons h, ← rd_nat h]
  rfl
/-- A limb of a number shifted down. -/
def rdig (s : Nat) (x R : Nat) : Nat := x / 2 ^ s + 2 ^ (64 - s) * (R % 2 ^ s)
theorem down_val {s x R : Nat} (hs : s < 64) (hx : x < 18446744073709551616) : (x + 18446744073709551616 * R) / 2 ^ s = rdig s x R + 18446744073709551616 * (R / 2 ^ s) ∧ rdig s x R < 18446744073709551616 := by
  have hS : 0 < 2 ^ s := Nat.pow_pos (by omega)
  have hST : 2 ^ s * 2 ^ (64 - s) = 18446744073709551616 := by rw [← Nat.pow_add, show s + (64 - s) = 64 by omega]
  have e1 : (x + 18446744073709551616 * R) / 2 ^ s = x / 2 ^ s + 2 ^ (64 - s) * R := by
    rw [← hST, Nat.mul_assoc, Nat.add_mul_div_left _ _ hS]
  have e2 : 2 ^ (64 - s) * R = 18446744073709551616 * (R / 2 ^ s) + 2 ^ (64 - s) * (R % 2 ^ s) := by
    have h := Nat.div_add_mod R (2 ^ s)
    have h' := congrArg (2 ^ (64 - s) * ·) h
    simp only [Nat.mul_add] at h'
    rw [← h', ← Nat.mul_assoc, Nat.mul_comm (2 ^ (64 - s)) (2 ^ s), hST]
  have e3 : x / 2 ^ s < 2 ^ (64 - s) := by
    rw [Nat.div_lt_iff_lt_mul hS, Nat.mul_comm, hST]; exact hx
  have e4 : 2 ^ (64 - s) * (R % 2 ^ s) + 2 ^ (64 - s) ≤ 18446744073709551616 := by
    have := Nat.mul_le_mul_left (2 ^ (64 - s)) (show R % 2 ^ s + 1 ≤ 2 ^ s from Nat.mod_lt _ hS)
    rw [Nat.mul_add, Nat.mul_one, Nat.mul_comm (2 ^ (64 - s)) (2 ^ s), hST] at this
    exact this
  unfold rdig
  generalize 2 ^ (64 - s) * (R % 2 ^ s) = t at *
  exact ⟨by omega, by omega⟩
/-- What holds behind so many limbs. -/
def RightInv (b : List Int) (s i : Nat) (cs : List Int) : Prop :=
  cs.length = b.length ∧ Dig cs ∧ (∀ j : Nat, i ≤ j → rd cs j = rd b j) ∧ val (cs.take i) + 18446744073709551616 ^ i * (val (b.drop i) / 2 ^ s) = val b / 2 ^ s
theorem RightInv.start {b : List Int} {s : Nat} (h : Dig b) : RightInv b s 0 b := ⟨rfl, h, fun _ _ => rfl, by simp [val]⟩
theorem RightInv.step {b cs : List Int} {s i : Nat} {v : Int} (h : RightInv b s i cs) (hi : i < b.length) (hs : s < 64) (hx0 : 0 ≤ rd b i) (hx1 : rd b i < 18446744073709551616) (hv : v = (rdig s (rd b i).toNat (val (b.drop (i + 1))) : Nat)) : RightInv b s (i + 1) (cs.set i v) := by
  obtain ⟨h1, h2, h3, h4⟩ := h
  obtain ⟨e1, e2⟩ := down_val (s := s) (x := (rd b i).toNat) (R := val (b.drop (i + 1))) hs (by omega)
  refine ⟨by simpa using h1, h2.set _ (by omega) (by omega), fun j hj => ?_, ?_⟩
  · rw [rd_set_ne _ (by omega)]; exact h3 j (by omega)
  · rw [drop_val hi, e1, Nat.mul_add] at h4
    rw [val_set_take (by omega), Nat.pow_succ, Nat.mul_assoc, hv, Int.toNat_natCast]
    omega
theorem RightInv.done {b cs : List Int} {s : Nat} (h : RightInv b s b.length cs) : Dig cs ∧ val cs = val b / 2 ^ s := by
  obtain ⟨h1, h2, h3, h4⟩ := h
  rw [List.take_of_length_le (by omega), List.drop_length] at h4
  exact ⟨h2, by rw [← h4]; simp [val]⟩
theorem digit_of {s : Nat} (hs : s < 64) {x y : Int} {R : Nat} (hx0 : 0 ≤ x) (hx1 : x < 18446744073709551616) (hy0 : 0 ≤ y) : Go.bits .or .u64 (x / 2 ^ s) (IntKind.u64.wrap (y * 2 ^ (64 - s))) = (rdig s x.toNat (y.toNat + 18446744073709551616 * R) : Nat) := by
  have hS : (0 : Int) < 2 ^ s := Int.pow_pos (by omega)
  have hT : (0 : Int) < 2 ^ (64 - s) := Int.pow_pos (by omega)
  have hST : (2 : Int) ^ s * 2 ^ (64 - s) = 18446744073709551616 := by rw [← Int.pow_add, show s + (64 - s) = 64 by omega]; rfl
  have hSN : 2 ^ s * 2 ^ (64 - s) = 18446744073709551616 := by rw [← Nat.pow_add, show s + (64 - s) = 64 by omega]
  have hmod : y * 2 ^ (64 - s) % 18446744073709551616 = y % 2 ^ s * 2 ^ (64 - s) := by
    rw [← hST, Int.mul_comm y, Int.mul_comm (2 ^ s), Int.mul_emod_mul_of_pos _ _ hT, Int.mul_comm]
  have e1 : (y.toNat + 18446744073709551616 * R) % 2 ^ s = y.toNat % 2 ^ s := by
    rw [← hSN, Nat.mul_assoc, Nat.add_mul_mod_self_left]
  have hm0 := Int.emod_nonneg y (b := 2 ^ s) (by omega)
  have hm1 := Int.emod_lt_of_pos y hS
  have hq0 : 0 ≤ x / 2 ^ s := Int.ediv_nonneg hx0 (by omega)
  have hq1 : x / 2 ^ s < 2 ^ (64 - s) := Int.ediv_lt_of_lt_mul hS (by rw [Int.mul_comm, hST]; exact hx1)
  have ecast : ((rdig s x.toNat (y.toNat + 18446744073709551616 * R) : Nat) : Int) = x / 2 ^ s + 2 ^ (64 - s) * (y % 2 ^ s) := by
    unfold rdig
    rw [e1, Int.natCast_add, Int.natCast_mul, Int.natCast_ediv, Int.natCast_emod, Int.toNat_of_nonneg hx0, Int.toNat_of_nonneg hy0]
    norm_cast
  rw [ecast, u64_wrap, hmod]
  by_cases h0 : s = 0
  · subst h0
    have : y % 2 ^ 0 = 0 := by rw [Int.pow_zero]; omega
    rw [this]
    simp only [Int.zero_mul, Int.mul_zero, Int.add_zero]
    rw [Int.pow_zero, Int.ediv_one]
    have := Go.Proofs.Ythokdnheijnmmaa.Long.or_shift 0 (by omega) (a := x) (b := 0) hx0 (by rw [Int.pow_zero, Int.mul_one]; exact hx1) (by omega) (by decide)
    rw [Int.pow_zero, Int.mul_one] at this
    rw [this]; omega
  · have hml : y % 2 ^ s * 2 ^ (64 - s) < 18446744073709551616 := by
      have := Int.mul_lt_mul_of_pos_right hm1 hT
      rw [hST] at this
      exact this
    rw [bits_comm_or, Go.Proofs.Ythokdnheijnmmaa.Long.or_shift (64 - s) (by omega) hm0 hml hq0 hq1, Int.mul_comm (2 ^ (64 - s))]
    omega
theorem digit_last {s x : Nat} : ((rdig s x 0 : Nat) : Int) = (x : Int) / 2 ^ s := by
  unfold rdig
  simp
section
set_option maxRecDepth 100000
set_option maxHeartbeats 1000000
theorem right_calls (a : List Int) (n : Nat) (A : Option Addr) (c : Nat) (w : World) (hda : Dig a) (hr : Rd w a A c) (hla : a.length ≤ 1000) (hn : n ≤ 6400) :
    Calls Try.prog 116 #[.slice A a.length c, .int .i64 n] w (RetRd (limbs (val a / 2 ^ n)) w) := by
  have HR := Aside0.mk hr
  have DA := Aside0.mk hda
  obtain ⟨k, hk⟩ : ∃ k, n / 64 = k := ⟨_, rfl⟩
  obtain ⟨s, hs⟩ : ∃ s, n % 64 = s := ⟨_, rfl⟩
  have hki : (n : Int) / 64 = (k : Int) := by omega
  have hsi : (n : Int) % 64 = (s : Int) := by omega
  have hs64 : s < 64 := by omega
  have HN : Aside0 (n = 64 * k + s) := ⟨by omega⟩
  have hv := val_lt hda
  clear hr hda hk hs
  by_cases h0 : a.length ≤ k
  · have hb : decide (a.length ≤ k) = true := decide_eq_true h0
    have hb2 : decide ((a.length : Int) ≤ (k : Int)) = true := decide_eq_true (by omega)
    have e : Aside0 (limbs (val a / 2 ^ n) = []) := ⟨by
      rw [Nat.div_eq_of_lt, limbs_zero]
      refine Nat.lt_of_lt_of_le hv ?_
      have h1 : 18446744073709551616 ^ a.length ≤ 18446744073709551616 ^ k := Nat.pow_le_pow_right (by omega) h0
      have h2 : 18446744073709551616 ^ k ≤ 2 ^ n := by
        show (2 ^ 64) ^ k ≤ 2 ^ n
        rw [← Nat.pow_mul]
        exact Nat.pow_le_pow_right (by omega) (by have := HN.out; omega)
      omega⟩
    clear hv
    go_enter Try.func116, Try.ntmps116
    go_wp2
    go_ret
    exact ⟨none, 0, by rw [e.out]; rfl, by rw [e.out]; exact Rd.nil _, Below.refl _ _⟩
  · have hb : decide (a.length ≤ k) = false := decide_eq_false h0
    have hb2 : decide ((a.length : Int) ≤ (k : Int)) = false := decide_eq_false (by omega)
    have e : Aside0 (val a / 2 ^ n = val (a.drop k) / 2 ^ s) := ⟨by
      have h1 := val_append (a.take k) (a.drop k)
      rw [List.take_append_drop, List.length_take, Nat.min_eq_left (by omega)] at h1
      have h2 := val_lt (DA.out.take k)
      rw [List.length_take, Nat.min_eq_left (by omega)] at h2
      rw [HN.out, Nat.pow_add, ← Nat.div_div_eq_div_mul, Nat.pow_mul]
      show val a / 18446744073709551616 ^ k / 2 ^ s = _
      rw [h1, Nat.add_mul_div_left _ _ (Nat.pow_pos (by omega)), Nat.div_eq_of_lt h2, Nat.zero_add]⟩
    rw [e.out]
    obtain ⟨ad, rfl⟩ : ∃ ad, A = some ad := by
      obtain ⟨ad, h, _⟩ := HR.out.2.2.2 (by omega)
      exact ⟨ad, h⟩
    have HD := Aside0.mk (Rd.drop HR.out (k := k) (by omega))
    have hlen : (a.drop k).length = a.length - k := by simp
    have HC := Aside0.mk (clone_calls (a.drop k) (some (ad.add k)) (c - k) w HD.out (by omega))
    rw [hlen] at HC
    have hac : a.length ≤ c := HR.out.1
    have Db := Aside0.mk (DA.out.drop k)
    clear hv e
    generalize a.drop k = b at *
    have hkl : k ≤ a.length := by omega
    have hkl' : (k : Int) ≤ (a.length : Int) := by omega
    have HL := Aside0.mk hlen
    clear hlen
    go_enter Try.func116, Try.ntmps116
    go_wp2_with fail
    refine HC.out.mono ?_
    rintro e w1 ⟨hB1, ⟨hnil, rfl⟩ | ⟨g, cp, rfl, hg, hcp, hm, hblk1⟩⟩
    · exact absurd (show b.length = 0 by rw [hnil]; rfl) (by have := HL.out; omega)
    have HB1 := Aside0.mk hB1
    have hg := Aside0.mk hg
    have hcp := Aside0.mk hcp
    have hblk1 := Aside0.mk hblk1
    have hm := Aside0.mk hm
    have hbl : b.length ≤ 1000 := by have := HL.out; omega
    clear hB1 HC h0 hb hb2 hkl hkl'
    go_wp2_with fail
    go_loopw [19] (fun v19 wr => ∃ (i : Nat) (cs : List Int), i ≤ b.length ∧ v19 = .int .i64 i ∧ Aside0 (RightInv b s i cs) ∧ Aside0 (Blk wr g cs) ∧ Aside0 (Below w.heap.size w wr)) (fun v19 _ => b.length - (intOf v19).toNat)
    case atStart => exact ⟨0, _, by omega, rfl, ⟨RightInv.start Db.out⟩, hblk1, HB1⟩
    case round =>
      obtain ⟨i, cs, hi, rfl, hI, hblk, hB⟩ := hrel
      have hcl := hI.out.1
      by_cases hil : i < b.length
      · have hx := Aside0.mk (Db.out.rd (i := (i : Int)) (by omega) (by omega))
        have hfz := hblk.out.frozen i
        have hcw : wr.cell? ⟨g, i, none⟩ = some (.int .u64 (rd b i)) := by rw [← hI.out.2.2.1 i (Nat.le_refl _)]; exact hblk.out.cell (by omega)
        by_cases hin : i + 1 < b.length
        · have hin1 : decide (i + 1 < b.length) = true := decide_eq_true hin
          have hin2 : decide ((i : Int) + 1 < (b.length : Int)) = true := decide_eq_true (by omega)
          have hcw' : wr.cell? ⟨g, i + 1, none⟩ = some (.int .u64 (rd b ((i + 1 : Nat) : Int))) := by rw [← hI.out.2.2.1 (i + 1) (by omega)]; exact hblk.out.cell (by omega)
          have hy := Aside0.mk (Db.out.rd (i := ((i + 1 : Nat) : Int)) (by omega) (by omega))
          have hci : Aside0 (rd cs ((i + 1 : Nat) : Int) = rd b ((i + 1 : Nat) : Int)) := ⟨hI.out.2.2.1 (i + 1) (by omega)⟩
          have hdv := Aside0.mk (digit_of (s := s) hs64 (x := rd b i) (y := rd b ((i + 1 : Nat) : Int)) (R := val (b.drop (i + 1 + 1))) hx.out.1 hx.out.2 hy.out.1)
          have st := Aside0.mk (fun v => hI.out.step (v := v) hil hs64 hx.out.1 hx.out.2)
          rw [← drop_val hin] at hdv
          generalize rd b i = x at *
          generalize rd b ((i + 1 : Nat) : Int) = y at *
          obtain ⟨v, ev⟩ : ∃ v, Go.bits .or .u64 (x / 2 ^ s) (IntKind.u64.wrap (y * 2 ^ (64 - s))) = v := ⟨_, rfl⟩
          rw [ev] at hdv
          have fin := Aside0.mk (st.out v hdv.out)
          clear hdv st
          go_wp2_with fail
          have hblk2 := Aside0.mk (hblk.out.put (i := i) (by omega) (x / 2 ^ s))
          have hB2 := Aside0.mk (below_set hB.out hg.out : Below w.heap.size w (wr.setCell ⟨g, i, none⟩ (.int .u64 (x / 2 ^ s))))
          generalize wr.setCell ⟨g, i, none⟩ (.int .u64 (x / 2 ^ s)) = wq at *
          have hfz2 := hblk2.out.frozen i
          have hcw2 : wq.cell? ⟨g, i, none⟩ = some (.int .u64 (x / 2 ^ s)) := (hblk2.out.cell (i := i) (by simp; omega)).trans (by rw [rd_set_eq _ (by omega)])
          have hcw2' : wq.cell? ⟨g, i + 1, none⟩ = some (.int .u64 y) := (hblk2.out.cell (i := i + 1) (by simp; omega)).trans (by rw [rd_set_ne _ (by omega), hci.out])
          clear hcw hcw' hfz
          go_region
          go_wp2
          go_roundw
          case rel => exact ⟨i + 1, _, by omega, by go_num, fin, ⟨by have h := (hblk2.out.put (i := i) (by simp; omega) v).drew; rw [List.set_set] at h; exact h⟩, ⟨below_drew1 (below_set hB2.out hg.out)⟩⟩
          case measure => simp [intOf]; omega
        · have hin1 : decide (i + 1 < b.length) = false := decide_eq_false hin
          have hin2 : decide ((i : Int) + 1 < (b.length : Int)) = false := decide_eq_false (by omega)
          have hdv : Aside0 (rd b i / 2 ^ s = (rdig s (rd b i).toNat (val (b.drop (i + 1))) : Nat)) := ⟨by rw [List.drop_of_length_le (by omega), show val [] = 0 from rfl, digit_last, Int.toNat_of_nonneg hx.out.1]⟩
          have fin := Aside0.mk (hI.out.step hil hs64 hx.out.1 hx.out.2 hdv.out)
          generalize rd b i = x at *
          clear hdv
          go_wp2
          go_roundw
          case rel => exact ⟨i + 1, _, by omega, by go_num, fin, ⟨hblk.out.put (i := i) (by omega) _⟩, ⟨below_set hB.out hg.out⟩⟩
          case measure => simp [intOf]; omega
      · obtain rfl : i = b.length := by omega
        have hfin := Aside0.mk (hI.out.done)
        have hrd := Aside0.mk (hblk.out.all (c := cp) (by have := hcp.out; omega) (by have := hm.out; omega))
        go_wp2_with fail
        have h := trim_calls cs (some ⟨g, 0, none⟩) cp _ hfin.out.1 hrd.out
        rw [hcl] at h
        refine h.mono ?_
        rintro e w2 ⟨A2, c2, rfl, hr2, hB2⟩
        go_wp2
        go_ret
        exact ⟨A2, c2, by rw [hfin.out.2]; rfl, by rw [← hfin.out.2]; exact hr2, hB.out.trans (hB2.mono hB.out.size)⟩
end
end Go.Proofs.Ythokdnheijnmmaa.Limbs
