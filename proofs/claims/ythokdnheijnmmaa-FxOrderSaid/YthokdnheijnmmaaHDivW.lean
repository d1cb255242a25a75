/- Walks of the limbs' functions: divWord, word, and div by one limb. -/
import Derived.Test.YthokdnheijnmmaaHRight
set_option linter.unusedVariables false
namespace Go.Proofs.Ythokdnheijnmmaa.Limbs
open Go.RowKit Go.Proofs.YthokdnheijnmmaaW.PrintWords Go.Proofs.YthokdnheijnmmaaW.PrintLast Go.Proofs.YthokdnheijnmmaaW.PrintMore Go.Proofs.YthokdnheijnmmaaW.Aid Go.Proofs.YthokdnheijnmmaaW.Big Go.Proofs.Ythokdnheijnmmaa.BitsWalk
/-- What holds behind so many limbs from the top. -/
def DivInv (a : List Int) (d : Nat) (j : Nat) (r : Int) (cs : List Int) : Prop :=
  cs.length = a.length ∧ Dig cs ∧ 0 ≤ r ∧ r < d ∧ val (a.drop j) = d * val (cs.drop j) + r.toNat
theorem DivInv.start (a : List Int) {d : Nat} (hd : 0 < d) : DivInv a d a.length 0 (List.replicate a.length 0) :=
  ⟨by simp, Dig.zeros _, by omega, by omega, by simp [val]⟩
theorem set_drop_self {l : List Int} {i : Nat} {v : Int} (h : i < l.length) : (l.set i v).drop i = v :: l.drop (i + 1) := by
  rw [List.drop_eq_getElem_cons (by simpa using h)]
  congr 1
  · simp
  · rw [List.drop_set_of_lt (by omega)]
theorem DivInv.step {a cs : List Int} {d i : Nat} {r : Int} (h : DivInv a d (i + 1) r cs) (hi : i < a.length) (hda : Dig a) : 
    0 ≤ (r * 18446744073709551616 + rd a i) / (d : Int) ∧ (r * 18446744073709551616 + rd a i) / (d : Int) < 18446744073709551616 ∧ 0 ≤ (r * 18446744073709551616 + rd a i) % (d : Int) ∧ (r * 18446744073709551616 + rd a i) % (d : Int) < d ∧
    DivInv a d i ((r * 18446744073709551616 + rd a i) % (d : Int)) (cs.set i ((r * 18446744073709551616 + rd a i) / (d : Int))) := by
  obtain ⟨h1, h2, h3, h4, h5⟩ := h
  obtain ⟨x0, x1⟩ := hda.rd (i := (i : Int)) (by omega) (by omega)
  have hd : (0 : Int) < d := by omega
  have e := Int.mul_ediv_add_emod (r * 18446744073709551616 + rd a i) (d : Int)
  have e0 : 0 ≤ (r * 18446744073709551616 + rd a i) / (d : Int) := Int.ediv_nonneg (by omega) (by omega)
  have e1 : (r * 18446744073709551616 + rd a i) / (d : Int) < 18446744073709551616 := by
    refine Int.ediv_lt_of_lt_mul hd ?_
    have := Int.mul_le_mul_of_nonneg_right (show r + 1 ≤ (d : Int) by omega) (show (0 : Int) ≤ 18446744073709551616 by omega)
    rw [Int.mul_comm 18446744073709551616]
    omega
  have e2 := Int.emod_nonneg (r * 18446744073709551616 + rd a i) (b := (d : Int)) (by omega)
  have e3 := Int.emod_lt_of_pos (r * 18446744073709551616 + rd a i) hd
  refine ⟨e0, e1, e2, e3, by simpa using h1, h2.set _ e0 e1, e2, e3, ?_⟩
  rw [drop_val hi, set_drop_self (by omega), h5]
  simp only [val]
  generalize (r * 18446744073709551616 + rd a i) / (d : Int) = q at *
  generalize (r * 18446744073709551616 + rd a i) % (d : Int) = m at *
  have hq : ((d * q.toNat : Nat) : Int) = (d : Int) * q := by rw [Int.natCast_mul, Int.toNat_of_nonneg e0]
  rw [Nat.mul_add, Nat.mul_add, Nat.mul_left_comm d]
  generalize val (cs.drop (i + 1)) = V at *
  generalize d * V = p at *
  generalize d * q.toNat = p' at *
  generalize (d : Int) * q = p'' at *
  omega
theorem DivInv.done {a cs : List Int} {d : Nat} {r : Int} (h : DivInv a d 0 r cs) : Dig cs ∧ val cs = val a / d ∧ r = ((val a % d : Nat) : Int) := by
  obtain ⟨h1, h2, h3, h4, h5⟩ := h
  simp only [List.drop_zero] at h5
  refine ⟨h2, ?_, ?_⟩
  · rw [h5, Nat.mul_add_div (by omega), Nat.div_eq_of_lt (by omega)]; omega
  · rw [h5, Nat.mul_add_mod, Nat.mod_eq_of_lt (by omega)]; omega
/-- What divWord answers. -/
def DivWRet (q r : Nat) (w : World) (e : Ending) (w' : World) : Prop := ∃ A c, e = .returned (.tuple #[.slice A (limbs q).length c, .int .u64 r]) ∧ Rd w' (limbs q) A c ∧ Below w.heap.size w w'
section
set_option maxRecDepth 100000
set_option maxHeartbeats 1000000
theorem below_drewN1 {B n : Nat} {w w1 : World} (h : Below B w w1) : Below B w (w1.drewN n) := ⟨h.os, h.tape, h.output, h.size, h.block⟩
theorem Blk.drewN {w : World} {g n : Nat} {l : List Int} (h : Blk w g l) : Blk (w.drewN n) g l := h
theorem divWord_calls (a : List Int) (d : Nat) (A : Option Addr) (c : Nat) (w : World) (hda : Dig a) (hr : Rd w a A c) (hla : a.length ≤ 1000) (hd0 : 0 < d) (hd1 : d < 18446744073709551616) :
    Calls Try.prog 123 #[.slice A a.length c, .int .u64 d] w (DivWRet (val a / d) (val a % d) w) := by
  have HR := Aside0.mk hr
  have DA := Aside0.mk hda
  have HD := Aside0.mk hd0
  have HD1 := Aside0.mk hd1
  have hmk := fun w => mk_run a.length (by omega) (a.length : Int) rfl w
  clear hr hda hd1 hd0
  go_enter Try.func123, Try.ntmps123
  go_wp2_with fail
  go_loopw [7, 8] (fun v7 v8 wr => ∃ (j : Nat) (r : Int) (cs : List Int), j ≤ a.length ∧ v8 = .int .i64 ((j : Int) - 1) ∧ v7 = .int .u64 r ∧ Aside0 (DivInv a d j r cs) ∧ Aside0 (Blk wr w.heap.size cs) ∧ Aside0 (Below w.heap.size w wr)) (fun _ v8 _ => (intOf v8 + 1).toNat)
  case atStart => exact ⟨a.length, 0, _, Nat.le_refl _, by go_num, rfl, ⟨DivInv.start a HD.out⟩, ⟨Blk.new w _⟩, ⟨below_alloc (Below.refl _ _) _⟩⟩
  case round =>
    obtain ⟨j, r, cs, hj, rfl, rfl, hI, hblk, hB⟩ := hrel
    have hcl := hI.out.1
    clear hmk
    cases j with
    | succ i =>
      have hb : decide ((0 : Int) ≤ ((i + 1 : Nat) : Int) - 1) = true := decide_eq_true (by omega)
      have ei : ((i + 1 : Nat) : Int) - 1 = (i : Int) := by omega
      rw [ei]
      have hil : i < a.length := by omega
      obtain ⟨ad, rfl, hcell⟩ := Kd.at_int (HR.out.below hB.out).2 (i : Int) (by omega) (by omega)
      simp only [Int.toNat_natCast] at hcell
      have hx := Aside0.mk (DA.out.rd (i := (i : Int)) (by omega) (by omega))
      have st := Aside0.mk (hI.out.step hil DA.out)
      generalize rd a i = x at *
      have DV := Aside0.mk (Go.Proofs.Ythokdnheijnmmaa.Long.div64_calls r x d wr hI.out.2.2.1 hI.out.2.2.2.1 hx.out.1 hx.out.2 (by have := HD1.out; omega))
      clear hb ei
      go_wp2_with fail
      refine DV.out.mono ?_
      rintro e w1 ⟨rfl, nd, rfl⟩
      have hfz := hblk.out.frozen i
      have hcw : wr.cell? ⟨w.heap.size, i, none⟩ = some (.int .u64 (rd cs i)) := hblk.out.cell (by omega)
      go_wp2
      go_roundw
      case rel => exact ⟨i, _, _, by omega, by go_num, rfl, ⟨st.out.2.2.2.2⟩, ⟨(hblk.out.drewN).put (by omega) _⟩, ⟨below_set (below_drewN1 hB.out) (Nat.le_refl _)⟩⟩
      case measure => simp [intOf] <;> omega
    | zero =>
      have hb : decide ((0 : Int) ≤ ((0 : Nat) : Int) - 1) = false := decide_eq_false (by omega)
      have hfin := Aside0.mk (hI.out.done)
      have hrd := Aside0.mk (hblk.out.all (c := a.length) (by omega) (by omega))
      go_wp2_with fail
      have h := trim_calls cs (some ⟨w.heap.size, 0, none⟩) a.length _ hfin.out.1 hrd.out
      rw [hcl] at h
      refine h.mono ?_
      rintro e w2 ⟨A2, c2, rfl, hr2, hB2⟩
      go_wp2
      go_ret2
      exact ⟨A2, c2, by rw [hfin.out.2.1, hfin.out.2.2]; rfl, by rw [← hfin.out.2.1]; exact hr2, hB.out.trans (hB2.mono hB.out.size)⟩
theorem limbs_word {n : Nat} (h0 : n ≠ 0) (h1 : n < 18446744073709551616) : limbs n = [(n : Int)] := by
  rw [limbs_pos h0, Nat.mod_eq_of_lt h1, Nat.div_eq_of_lt h1, limbs_zero]
theorem word_calls (n : Nat) (w : World) (h : n < 18446744073709551616) : Calls Try.prog 85 #[.int .u64 n] w (RetRd (limbs n) w) := by
  by_cases h0 : n = 0
  · subst h0
    have e : Aside0 (limbs 0 = []) := ⟨limbs_zero⟩
    go_enter Try.func85, Try.ntmps85
    go_wp2
    go_ret
    exact ⟨none, 0, by rw [e.out]; rfl, by rw [e.out]; exact Rd.nil _, Below.refl _ _⟩
  · have hb : ((n : Int) == 0) = false := beq_eq_false_iff_ne.2 (by omega)
    have e : Aside0 (limbs n = [(n : Int)]) := ⟨limbs_word h0 h⟩
    go_enter Try.func85, Try.ntmps85
    go_wp2
    go_ret
    exact ⟨some ⟨w.heap.size, 0, none⟩, 1, by rw [e.out]; rfl, by rw [e.out]; exact (Blk.new w [(n : Int)]).all (by simp) (by simp), below_alloc (Below.refl _ _) _⟩
/-- What div answers. -/
def DivRet (q r : Nat) (w : World) (e : Ending) (w' : World) : Prop := ∃ A c A' c', e = .returned (.tuple #[.slice A (limbs q).length c, .slice A' (limbs r).length c']) ∧ Rd w' (limbs q) A c ∧ Rd w' (limbs r) A' c' ∧ Below w.heap.size w w'
theorem CloneRet.rd {l : List Int} {w : World} {e : Ending} {w' : World} (h : CloneRet l w e w') : RetRd l w e w' := by
  obtain ⟨hB, ⟨hnil, rfl⟩ | ⟨g, cp, rfl, hg, hcp, hm, hblk⟩⟩ := h
  · subst hnil; exact ⟨none, 0, rfl, Rd.nil _, hB⟩
  · exact ⟨_, _, rfl, hblk.all hcp hm, hB⟩
theorem div_calls_word (a b : Nat) (A A' : Option Addr) (c c' : Nat) (w : World) (hr : Rd w (limbs a) A c) (hr' : Rd w (limbs b) A' c') (hla : (limbs a).length ≤ 1000) (hb0 : 0 < b) (hb1 : b < 18446744073709551616) :
    Calls Try.prog 108 #[.slice A (limbs a).length c, .slice A' (limbs b).length c'] w (DivRet (a / b) (a % b) w) := by
  have HR := Aside0.mk hr
  have HR' := Aside0.mk hr'
  have HB := Aside0.mk (And.intro hb0 hb1)
  have CM := Aside0.mk (cmp_calls a b A A' c c' w hr hr')
  clear hr hr' hb0 hb1
  by_cases hlt : a < b
  · have e1 : Aside0 (a / b = 0 ∧ a % b = a) := ⟨Nat.div_eq_of_lt hlt, Nat.mod_eq_of_lt hlt⟩
    have e2 : cmpR a b = -1 := if_pos hlt
    have hl0 : Aside0 (limbs 0 = []) := ⟨limbs_zero⟩
    rw [e2] at CM
    rw [e1.out.1, e1.out.2]
    have CL := Aside0.mk (fun n => clone_calls (limbs a) A c (w.drewN n) (HR.out.below (below_drewN1 (Below.refl _ _))) (by omega))
    clear e2 hlt
    go_enter Try.func108, Try.ntmps108
    go_wp2_with fail
    refine CM.out.mono ?_
    rintro e w1 ⟨rfl, nd, rfl⟩
    go_wp2_with fail
    refine (CL.out nd).mono ?_
    rintro e w1 hcl
    obtain ⟨A2, c2, rfl, hr2, hB2⟩ := hcl.rd
    go_wp2
    go_ret2
    exact ⟨none, 0, A2, c2, by rw [hl0.out]; rfl, by rw [hl0.out]; exact Rd.nil _, hr2, (below_drewN1 (Below.refl w.heap.size w)).trans hB2⟩
  · have e2 : cmpR a b = (if b < a then 1 else 0) := if_neg hlt
    obtain ⟨k, hk, hk0⟩ : ∃ k : Int, cmpR a b = k ∧ 0 ≤ k := ⟨_, rfl, by rw [e2]; split <;> omega⟩
    have hkb : decide (k < 0) = false := decide_eq_false (by omega)
    have hlb := limbs_word (n := b) (by have := HB.out; omega) HB.out.2
    have hl1 : Aside0 ((limbs b).length = 1) := ⟨by rw [hlb]; rfl⟩
    rw [hk] at CM
    rw [hl1.out] at CM
    rw [hl1.out]
    have DW := Aside0.mk (fun n => divWord_calls (limbs a) b A c (w.drewN n) (limbs_dig a) (HR.out.below (below_drewN1 (Below.refl _ _))) hla HB.out.1 HB.out.2)
    rw [val_limbs] at DW
    obtain ⟨ad, rfl, hcell⟩ := Kd.at_int HR'.out.2 (0 : Int) (by omega) (by rw [hl1.out]; omega)
    have hc0 : rd (limbs b) 0 = (b : Int) := by rw [hlb]; rfl
    rw [hc0] at hcell
    have hcell0 : w.cell? ad = some (.int .u64 (b : Int)) := hcell
    clear hcell
    have hone : decide ((1 : Int) = 1) = true := rfl
    have MB := Aside0.mk (Nat.lt_trans (Nat.mod_lt a HB.out.1) HB.out.2)
    clear e2 hlt hk hk0 hc0 hlb
    go_enter Try.func108, Try.ntmps108
    go_wp2_with fail
    refine CM.out.mono ?_
    rintro e w1 ⟨rfl, nd, rfl⟩
    go_wp2_with fail
    refine (DW.out nd).mono ?_
    rintro e w1 ⟨A2, c2, rfl, hr2, hB2⟩
    go_wp2_with fail
    refine (word_calls (a % b) w1 MB.out).mono ?_
    rintro e w2 ⟨A3, c3, rfl, hr3, hB3⟩
    have hB3 := Aside0.mk hB3
    have hB2 := Aside0.mk hB2
    go_wp2
    go_ret2
    exact ⟨A2, c2, A3, c3, rfl, hr2.below hB3.out, hr3, ((below_drewN1 (Below.refl w.heap.size w)).trans hB2.out).trans (hB3.out.mono hB2.out.size)⟩
end
end Go.Proofs.Ythokdnheijnmmaa.Limbs
