/- Walks of the limbs' functions: sub. -/
import Derived.Test.YthokdnheijnmmaaHBlk
set_option linter.unusedVariables false
namespace Go.Proofs.Ythokdnheijnmmaa.Limbs
open Go.RowKit Go.Proofs.YthokdnheijnmmaaW.PrintWords Go.Proofs.YthokdnheijnmmaaW.PrintLast Go.Proofs.YthokdnheijnmmaaW.PrintMore Go.Proofs.YthokdnheijnmmaaW.Aid Go.Proofs.YthokdnheijnmmaaW.Big
section
set_option maxRecDepth 10000
set_option maxHeartbeats 1000000
/-- What holds behind so many limbs of a difference. -/
def SubInv (a b : List Int) (i : Nat) (bw : Int) (cs : List Int) : Prop :=
  cs.length = a.length ∧ Dig cs ∧ 0 ≤ bw ∧ bw ≤ 1 ∧ (∀ j : Nat, i ≤ j → rd cs j = rd a j) ∧ val (cs.take i) + val (b.take i) = val (a.take i) + 18446744073709551616 ^ i * bw.toNat
theorem SubInv.start {a b : List Int} (h : Dig a) : SubInv a b 0 0 a := ⟨rfl, h, by omega, by omega, fun _ _ => rfl, by simp [val]⟩
theorem SubInv.step {a b cs : List Int} {i : Nat} {bw : Int} (h : SubInv a b i bw cs) (hi : i < a.length) {x y r bw' : Int} (hx : rd a i = x) (hy : (i < b.length ∧ rd b i = y ∧ 0 ≤ y) ∨ (b.length ≤ i ∧ y = 0)) (hx0 : 0 ≤ x) (hr0 : 0 ≤ r) (hr1 : r < 18446744073709551616) (hb0 : 0 ≤ bw') (hb1 : bw' ≤ 1)
    (e : r + y + bw = x + 18446744073709551616 * bw') : SubInv a b (i + 1) bw' (cs.set i r) := by
  obtain ⟨h1, h2, h3, h4, h5, h6⟩ := h
  refine ⟨by simpa using h1, h2.set i hr0 hr1, hb0, hb1, fun j hj => ?_, ?_⟩
  · rw [rd_set_ne _ (by omega)]
    exact h5 j (by omega)
  · have eb : val (b.take (i + 1)) = val (b.take i) + 18446744073709551616 ^ i * y.toNat := by
      rcases hy with ⟨h, rfl, _⟩ | ⟨h, rfl⟩
      · exact val_take_succ h
      · rw [take_ge h]; simp
    have hy0 : 0 ≤ y := by rcases hy with ⟨_, _, h⟩ | ⟨_, h⟩ <;> omega
    rw [val_set_take (by omega), val_take_succ hi, eb, hx, Nat.pow_succ, Nat.mul_assoc]
    have e' : r.toNat + y.toNat + bw.toNat = x.toNat + 18446744073709551616 * bw'.toNat := by omega
    have := congrArg (18446744073709551616 ^ i * ·) e'
    simp only [Nat.mul_add] at this
    omega
theorem SubInv.done {a b cs : List Int} {bw : Int} (h : SubInv a b a.length bw cs) (hv : val b ≤ val a) (hl : b.length ≤ a.length) : Dig cs ∧ val cs = val a - val b ∧ cs.length = a.length := by
  obtain ⟨h1, h2, h3, h4, h5, h6⟩ := h
  have hlt := val_lt h2
  rw [List.take_of_length_le (by omega), List.take_of_length_le hl, List.take_length] at h6
  rw [h1] at hlt
  have hbw : bw.toNat = 0 := by
    rcases Nat.eq_zero_or_pos bw.toNat with h | h
    · exact h
    · have : bw.toNat = 1 := by omega
      rw [this] at h6
      omega
  rw [hbw] at h6
  exact ⟨h2, by omega, h1⟩
theorem sub_y {y bw s : Int} (hy0 : 0 ≤ y) (hy1 : y < 18446744073709551616) (hc0 : 0 ≤ bw) (hc1 : bw ≤ 1) (h : IntKind.u64.wrap (bw + y) = s) : (¬ s < y ∧ s = bw + y ∧ 0 ≤ s ∧ s < 18446744073709551616) ∨ (s < y ∧ bw = 1 ∧ y = 18446744073709551615 ∧ s = 0) := by
  rw [u64_wrap] at h
  omega
theorem sub_x {x s r : Int} (hx0 : 0 ≤ x) (hx1 : x < 18446744073709551616) (hs0 : 0 ≤ s) (hs1 : s < 18446744073709551616) (h : IntKind.u64.wrap (x - s) = r) : 0 ≤ r ∧ r < 18446744073709551616 ∧ ((¬ x < s ∧ r = x - s) ∨ (x < s ∧ r = x - s + 18446744073709551616)) := by
  rw [u64_wrap] at h
  omega
theorem sub_calls (a b : List Int) (A A' : Option Addr) (c c' : Nat) (w : World) (hda : Dig a) (hdb : Dig b) (hr : Rd w a A c) (hr' : Rd w b A' c') (hla : a.length ≤ 1000) (hl : b.length ≤ a.length) (hv : val b ≤ val a) :
    Calls Try.prog 112 #[.slice A a.length c, .slice A' b.length c'] w (RetRd (limbs (val a - val b)) w) := by
  have HR := Aside0.mk hr
  have HR' := Aside0.mk hr'
  have DA := Aside0.mk hda
  have DB := Aside0.mk hdb
  have HV := Aside0.mk hv
  clear hr hr' hda hdb hv
  go_enter Try.func112, Try.ntmps112
  go_wp2_with fail
  refine (clone_calls a A c _ HR.out (by omega)).mono ?_
  rintro e w1 ⟨hB1, ⟨hnil, rfl⟩ | ⟨g, cp, rfl, hg, hcp, hm, hblk1⟩⟩
  · have HB1 := Aside0.mk hB1
    have e0 : Aside0 (limbs (val a - val b) = []) := ⟨by rw [hnil, show val [] = 0 from rfl, Nat.zero_sub, limbs_zero]⟩
    clear hB1
    subst hnil
    go_wp2_with fail
    go_loopw [6, 13] (fun v6 v13 wr => v13 = .int .i64 0 ∧ w1 = wr) (fun _ _ _ => 0)
    case atStart => exact ⟨rfl, rfl⟩
    case round =>
      obtain ⟨rfl, rfl⟩ := hrel
      go_wp2_with fail
      refine (trim_calls [] none 0 _ (fun x hx => by simp at hx) (Rd.nil _)).mono ?_
      rintro e w2 ⟨A2, c2, rfl, hr2, hB2⟩
      go_wp2
      go_ret
      refine ⟨A2, c2, ?_, ?_, HB1.out.trans (hB2.mono HB1.out.size)⟩
      · rw [e0.out, show limbs (val []) = [] from limbs_zero]; rfl
      · rw [e0.out]; exact hr2.of_eq limbs_zero
  · have HB1 := Aside0.mk hB1
    have hg := Aside0.mk hg
    have hcp := Aside0.mk hcp
    have hblk1 := Aside0.mk hblk1
    have hm := Aside0.mk hm
    clear hB1
    go_wp2_with fail
    go_loopw [6, 13] (fun v6 v13 wr => ∃ (i : Nat) (bw : Int) (cs : List Int), i ≤ a.length ∧ v13 = .int .i64 i ∧ v6 = .int .u64 bw ∧ Aside0 (SubInv a b i bw cs) ∧ Aside0 (Blk wr g cs) ∧ Aside0 (Below w.heap.size w wr)) (fun _ v13 _ => a.length - (intOf v13).toNat)
    case atStart => exact ⟨0, 0, a, by omega, rfl, rfl, ⟨SubInv.start DA.out⟩, hblk1, HB1⟩
    case round =>
      obtain ⟨i, bw, cs, hi, rfl, rfl, hI, hblk, hB⟩ := hrel
      have hcl := hI.out.1
      have hc0 := hI.out.2.2.1
      have hc1 := hI.out.2.2.2.1
      by_cases hil : i < a.length
      · have hfz := hblk.out.frozen i
        have hcw : wr.cell? ⟨g, i, none⟩ = some (.int .u64 (rd a i)) := by rw [← hI.out.2.2.2.2.1 i (Nat.le_refl _)]; exact hblk.out.cell (by omega)
        have hx := Aside0.mk (DA.out.rd (i := (i : Int)) (by omega) (by omega))
        generalize hxx : rd a i = x at *
        have hxx := Aside0.mk hxx
        by_cases hib : i < b.length
        · have hib1 : decide (i < b.length) = true := decide_eq_true hib
          have hib2 : decide ((i : Int) < (b.length : Int)) = true := decide_eq_true (by omega)
          obtain ⟨ad', rfl, hcell'⟩ := Kd.at_int (HR'.out.below hB.out).2 (i : Int) (by omega) (by omega)
          simp only [Int.toNat_natCast] at hcell'
          have hy := Aside0.mk (DB.out.rd (i := (i : Int)) (by omega) (by omega))
          generalize hyy : rd b i = y at *
          have hyy := Aside0.mk hyy
          obtain ⟨s, hs⟩ : ∃ s, IntKind.u64.wrap (bw + y) = s := ⟨_, rfl⟩
          have hS := Aside0.mk (sub_y hy.out.1 hy.out.2 hc0 hc1 hs)
          obtain ⟨r, hr⟩ : ∃ r, IntKind.u64.wrap (x - s) = r := ⟨_, rfl⟩
          have hR := Aside0.mk (sub_x hx.out.1 hx.out.2 (by have := hS.out; omega) (by have := hS.out; omega) hr)
          by_cases c1 : s < y
          · have c1b : decide (s < y) = true := decide_eq_true c1
            have c2 : ¬ x < s := by have := hR.out; have := hS.out; have := hx.out; omega
            have c2b : decide (x < s) = false := decide_eq_false c2
            have fin := Aside0.mk (hI.out.step hil (x := x) (y := y) (r := r) (bw' := 1) hxx.out (.inl ⟨hib, hyy.out, hy.out.1⟩) hx.out.1 hR.out.1 hR.out.2.1 (by omega) (by omega) (by have := hR.out; have := hS.out; have := hy.out; have := hx.out; omega))
            clear c1 c2
            go_wp2
            go_roundw
            case rel => exact ⟨i + 1, 1, cs.set i r, by omega, by go_num, rfl, fin, ⟨hblk.out.put (by omega) r⟩, ⟨below_set hB.out hg.out⟩⟩
            case measure => simp [intOf]; omega
          · have c1b : decide (s < y) = false := decide_eq_false c1
            by_cases c2 : x < s
            · have c2b : decide (x < s) = true := decide_eq_true c2
              have fin := Aside0.mk (hI.out.step hil (x := x) (y := y) (r := r) (bw' := 1) hxx.out (.inl ⟨hib, hyy.out, hy.out.1⟩) hx.out.1 hR.out.1 hR.out.2.1 (by omega) (by omega) (by have := hR.out; have := hS.out; have := hy.out; have := hx.out; omega))
              clear c1 c2
              go_wp2
              go_roundw
              case rel => exact ⟨i + 1, 1, cs.set i r, by omega, by go_num, rfl, fin, ⟨hblk.out.put (by omega) r⟩, ⟨below_set hB.out hg.out⟩⟩
              case measure => simp [intOf]; omega
            · have c2b : decide (x < s) = false := decide_eq_false c2
              have fin := Aside0.mk (hI.out.step hil (x := x) (y := y) (r := r) (bw' := 0) hxx.out (.inl ⟨hib, hyy.out, hy.out.1⟩) hx.out.1 hR.out.1 hR.out.2.1 (by omega) (by omega) (by have := hR.out; have := hS.out; have := hy.out; have := hx.out; omega))
              clear c1 c2
              go_wp2
              go_roundw
              case rel => exact ⟨i + 1, 0, cs.set i r, by omega, by go_num, rfl, fin, ⟨hblk.out.put (by omega) r⟩, ⟨below_set hB.out hg.out⟩⟩
              case measure => simp [intOf]; omega
        · have hib1 : decide (i < b.length) = false := decide_eq_false hib
          have hib2 : decide ((i : Int) < (b.length : Int)) = false := decide_eq_false (by omega)
          obtain ⟨r, hr⟩ : ∃ r, IntKind.u64.wrap (x - bw) = r := ⟨_, rfl⟩
          have hR := Aside0.mk (sub_x hx.out.1 hx.out.2 hc0 (by omega) hr)
          by_cases c2 : x < bw
          · have c2b : decide (x < bw) = true := decide_eq_true c2
            have fin := Aside0.mk (hI.out.step hil (x := x) (y := 0) (r := r) (bw' := 1) hxx.out (.inr ⟨by omega, rfl⟩) hx.out.1 hR.out.1 hR.out.2.1 (by omega) (by omega) (by have := hR.out; have := hx.out; omega))
            clear c2
            go_wp2
            go_roundw
            case rel => exact ⟨i + 1, 1, cs.set i r, by omega, by go_num, rfl, fin, ⟨hblk.out.put (by omega) r⟩, ⟨below_set hB.out hg.out⟩⟩
            case measure => simp [intOf]; omega
          · have c2b : decide (x < bw) = false := decide_eq_false c2
            have fin := Aside0.mk (hI.out.step hil (x := x) (y := 0) (r := r) (bw' := 0) hxx.out (.inr ⟨by omega, rfl⟩) hx.out.1 hR.out.1 hR.out.2.1 (by omega) (by omega) (by have := hR.out; have := hx.out; omega))
            clear c2
            go_wp2
            go_roundw
            case rel => exact ⟨i + 1, 0, cs.set i r, by omega, by go_num, rfl, fin, ⟨hblk.out.put (by omega) r⟩, ⟨below_set hB.out hg.out⟩⟩
            case measure => simp [intOf]; omega
      · obtain rfl : i = a.length := by omega
        have hfin := Aside0.mk (hI.out.done HV.out hl)
        have hrd := Aside0.mk (hblk.out.all (c := cp) (by have := hcp.out; omega) (by have := hm.out; omega))
        go_wp2_with fail
        have h := trim_calls cs (some ⟨g, 0, none⟩) cp _ hfin.out.1 hrd.out
        rw [hcl] at h
        refine h.mono ?_
        rintro e w2 ⟨A2, c2, rfl, hr2, hB2⟩
        go_wp2
        go_ret
        exact ⟨A2, c2, by rw [hfin.out.2.1]; rfl, by rw [← hfin.out.2.1]; exact hr2, hB.out.trans (hB2.mono hB.out.size)⟩
end
end Go.Proofs.Ythokdnheijnmmaa.Limbs
