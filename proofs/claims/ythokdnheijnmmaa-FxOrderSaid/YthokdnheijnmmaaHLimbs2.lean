/- Walks of the limbs' functions: add. -/
import Derived.Test.YthokdnheijnmmaaHLimbs
import Derived.Deep.OwnRows
set_option linter.unusedVariables false
namespace Go.Proofs.Ythokdnheijnmmaa.Limbs
open Go.RowKit Go.Proofs.YthokdnheijnmmaaW.PrintWords Go.Proofs.YthokdnheijnmmaaW.PrintLast Go.Proofs.YthokdnheijnmmaaW.PrintMore Go.Proofs.YthokdnheijnmmaaW.Aid Go.Proofs.YthokdnheijnmmaaW.Big
section
set_option maxRecDepth 10000
set_option maxHeartbeats 1000000
theorem info64 : (Try.prog.info? 76).map (fun i => (i.zero, i.size, i.bytes)) = some (some (.int .u64 0), 1, 8) := by kernel_rfl
theorem made_lc (n : Nat) : madeCells #[Value.int .u64 0] n = lc (List.replicate n 0) := by
  refine Array.ext (by simp [madeCells, lc]) (fun i h1 h2 => ?_)
  simp [madeCells, lc, Nat.mod_one]
/-- 'make(Nat, n)'. -/
theorem mk_run (n : Nat) (hn : n ≤ 100000) (m : Int) (hm : m = (n : Int)) (w : World) : (Instr.makeSlice 56 (.int .i64 m) (.int .i64 m)).run Try.prog w = .ok (.slice (some ⟨w.heap.size, 0, none⟩) n n) (w.alloc (.cells (lc (List.replicate n 0)) 76)) := by
  rw [hm, ← made_lc]
  exact run_make_row' 56 76 (.int .u64 0) 8 Try.underlying56 info64 rfl .i64 .i64 n (by omega) (by omega) w
/-- A limb's sum with a carry. -/
theorem add_limb {x cy s : Int} (hx0 : 0 ≤ x) (hx1 : x < 18446744073709551616) (hc0 : 0 ≤ cy) (hc1 : cy ≤ 1) (h : IntKind.u64.wrap (x + cy) = s) : (¬ s < x ∧ s = x + cy) ∨ (s < x ∧ cy = 1 ∧ x = 18446744073709551615 ∧ s = 0) := by
  rw [u64_wrap] at h
  omega
theorem add_limb2 {y s r : Int} (hy0 : 0 ≤ y) (hy1 : y < 18446744073709551616) (hs0 : 0 ≤ s) (hs1 : s < 18446744073709551616) (h : IntKind.u64.wrap (s + y) = r) : 0 ≤ r ∧ r < 18446744073709551616 ∧ ((¬ r < y ∧ r = s + y) ∨ (r < y ∧ r + 18446744073709551616 = s + y)) := by
  rw [u64_wrap] at h
  omega
/-- What holds behind so many limbs of a sum. -/
def AddInv (a b : List Int) (i : Nat) (cy : Int) (cs : List Int) : Prop :=
  cs.length = a.length + 1 ∧ Dig cs ∧ 0 ≤ cy ∧ cy ≤ 1 ∧ val (cs.take i) + 18446744073709551616 ^ i * cy.toNat = val (a.take i) + val (b.take i)
theorem take_ge {b : List Int} {i : Nat} (h : b.length ≤ i) : val (b.take (i + 1)) = val (b.take i) := by
  rw [List.take_of_length_le h, List.take_of_length_le (by omega)]
theorem AddInv.step1 {a b cs : List Int} {i : Nat} {cy : Int} (h : AddInv a b i cy cs) (ha : i < a.length) (hb : b.length ≤ i) {s cy' : Int} (hs0 : 0 ≤ s) (hs1 : s < 18446744073709551616) (hc0 : 0 ≤ cy') (hc1 : cy' ≤ 1)
    (e : s + 18446744073709551616 * cy' = rd a i + cy) (ha0 : 0 ≤ rd a i) : AddInv a b (i + 1) cy' (cs.set i s) := by
  obtain ⟨h1, h2, h3, h4, h5⟩ := h
  refine ⟨by simpa using h1, h2.set i hs0 hs1, hc0, hc1, ?_⟩
  rw [val_set_take (by omega), val_take_succ ha, take_ge hb, Nat.pow_succ, Nat.mul_assoc]
  have e' : s.toNat + 18446744073709551616 * cy'.toNat = (rd a i).toNat + cy.toNat := by omega
  have := congrArg (18446744073709551616 ^ i * ·) e'
  simp only [Nat.mul_add] at this
  omega
theorem AddInv.step2 {a b cs : List Int} {i : Nat} {cy : Int} (h : AddInv a b i cy cs) (ha : i < a.length) (hb : i < b.length) {s cy' : Int} (hs0 : 0 ≤ s) (hs1 : s < 18446744073709551616) (hc0 : 0 ≤ cy') (hc1 : cy' ≤ 1)
    (e : s + 18446744073709551616 * cy' = rd a i + rd b i + cy) (ha0 : 0 ≤ rd a i) (hb0 : 0 ≤ rd b i) : AddInv a b (i + 1) cy' (cs.set i s) := by
  obtain ⟨h1, h2, h3, h4, h5⟩ := h
  refine ⟨by simpa using h1, h2.set i hs0 hs1, hc0, hc1, ?_⟩
  rw [val_set_take (by omega), val_take_succ ha, val_take_succ hb, Nat.pow_succ, Nat.mul_assoc]
  have e' : s.toNat + 18446744073709551616 * cy'.toNat = (rd a i).toNat + (rd b i).toNat + cy.toNat := by omega
  have := congrArg (18446744073709551616 ^ i * ·) e'
  simp only [Nat.mul_add] at this
  omega
theorem AddInv.done {a b cs : List Int} {cy : Int} (h : AddInv a b a.length cy cs) (hb : b.length ≤ a.length) : Dig (cs.set a.length cy) ∧ val (cs.set a.length cy) = val a + val b ∧ (cs.set a.length cy).length = a.length + 1 := by
  obtain ⟨h1, h2, h3, h4, h5⟩ := h
  refine ⟨h2.set _ h3 (by omega), ?_, by simpa using h1⟩
  have e : cs.set a.length cy = (cs.set a.length cy).take (a.length + 1) := by rw [List.take_of_length_le (by simp; omega)]
  rw [e, val_set_take (by omega), h5, List.take_length, List.take_of_length_le hb]
theorem AddInv.start (a b : List Int) : AddInv a b 0 0 (List.replicate (a.length + 1) 0) := ⟨by simp, Dig.zeros _, by omega, by omega, by simp [val]⟩

theorem add_calls (a b : List Int) (A A' : Option Addr) (c c' : Nat) (w : World) (hda : Dig a) (hdb : Dig b) (hr : Rd w a A c) (hr' : Rd w b A' c') (hla : a.length ≤ 1000) (hlb : b.length ≤ 1000) :
    Calls Try.prog 111 #[.slice A a.length c, .slice A' b.length c'] w (RetRd (limbs (val a + val b)) w) := by
  have HR := Aside0.mk hr
  have HR' := Aside0.mk hr'
  have DA := Aside0.mk hda
  have DB := Aside0.mk hdb
  clear hr hr' hda hdb
  by_cases hlt : a.length < b.length
  · have hb : decide (a.length < b.length) = true := decide_eq_true hlt
    have hsum : val a + val b = val b + val a := Nat.add_comm _ _
    rw [hsum]
    clear hsum
    have hmk := fun w => mk_run (b.length + 1) (by omega) ((b.length : Int) + 1) (by omega) w
    go_enter Try.func111, Try.ntmps111
    go_wp2_with fail
    go_loopw [6, 23] (fun v6 v23 wr => ∃ (i : Nat) (cy : Int) (cs : List Int), i ≤ b.length ∧ v23 = .int .i64 i ∧ v6 = .int .u64 cy ∧ Aside0 (AddInv b a i cy cs) ∧ Aside0 (wr.heap[w.heap.size]? = some (.cells (lc cs) 76 (0, 0))) ∧ Aside0 (Below w.heap.size w wr)) (fun _ v23 _ => b.length - (intOf v23).toNat)
    case atStart => exact ⟨0, 0, _, by omega, rfl, rfl, ⟨AddInv.start _ _⟩, ⟨blk_new w _⟩, ⟨below_alloc (Below.refl _ _) _⟩⟩
    case round =>
      obtain ⟨i, cy, cs, hi, rfl, rfl, hI, hblk, hB⟩ := hrel
      have hcl := hI.out.1
      have hc0 := hI.out.2.2.1
      have hc1 := hI.out.2.2.2.1
      have hfz := blk_frozen hblk.out i
      have hcw : wr.cell? ⟨w.heap.size, i, none⟩ = some (.int .u64 (rd cs i)) := (blk_cell hblk.out i).trans (lc_at (by omega))
      clear hmk
      by_cases hil : i < b.length
      · obtain ⟨ad, rfl, hcell⟩ := Kd.at_int (HR'.out.below hB.out).2 (i : Int) (by omega) (by omega)
        simp only [Int.toNat_natCast] at hcell
        have hx := Aside0.mk (DB.out.rd (i := (i : Int)) (by omega) (by omega))
        have st1 : Aside0 (∀ s cy' : Int, a.length ≤ i → 0 ≤ s → s < 18446744073709551616 → 0 ≤ cy' → cy' ≤ 1 → s + 18446744073709551616 * cy' = rd b i + cy → AddInv b a (i + 1) cy' (cs.set i s)) := ⟨fun s cy' h1 h2 h3 h4 h5 h6 => hI.out.step1 hil h1 h2 h3 h4 h5 h6 hx.out.1⟩
        have st2 : Aside0 (∀ s cy' : Int, i < a.length → 0 ≤ s → s < 18446744073709551616 → 0 ≤ cy' → cy' ≤ 1 → s + 18446744073709551616 * cy' = rd b i + rd a i + cy → AddInv b a (i + 1) cy' (cs.set i s)) := ⟨fun s cy' h1 h2 h3 h4 h5 h6 => hI.out.step2 hil h1 h2 h3 h4 h5 h6 hx.out.1 (DA.out.rd (i := (i : Int)) (by omega) (by omega)).1⟩
        generalize rd b i = x at *
        obtain ⟨s, hs⟩ : ∃ s, IntKind.u64.wrap (x + cy) = s := ⟨_, rfl⟩
        have hS := Aside0.mk (add_limb hx.out.1 hx.out.2 hc0 hc1 hs)
        have hs01 : Aside0 (0 ≤ s ∧ s < 18446744073709551616) := ⟨by have := hx.out; rcases hS.out with h | h <;> (rw [u64_wrap] at hs; omega)⟩
        by_cases hib : i < a.length
        · have hib1 : decide (i < a.length) = true := decide_eq_true hib
          have hib2 : decide ((i : Int) < (a.length : Int)) = true := decide_eq_true (by omega)
          obtain ⟨ad', rfl, hcell'⟩ := Kd.at_int (HR.out.below hB.out).2 (i : Int) (by omega) (by omega)
          simp only [Int.toNat_natCast] at hcell'
          have hy := Aside0.mk (DA.out.rd (i := (i : Int)) (by omega) (by omega))
          generalize rd a i = y at *
          obtain ⟨r, hr⟩ : ∃ r, IntKind.u64.wrap (s + y) = r := ⟨_, rfl⟩
          have hR := Aside0.mk (add_limb2 hy.out.1 hy.out.2 hs01.out.1 hs01.out.2 hr)
          by_cases c1 : s < x
          · have c1b : decide (s < x) = true := decide_eq_true c1
            have c2 : ¬ r < y := by have := hR.out; have := hS.out; have := hy.out; omega
            have c2b : decide (r < y) = false := decide_eq_false c2
            have fin := Aside0.mk (st2.out r 1 hib (by have := hR.out; omega) (by have := hR.out; omega) (by omega) (by omega) (by have := hR.out; have := hS.out; have := hx.out; omega))
            clear c1 c2
            go_wp2
            go_roundw
            case rel => exact ⟨i + 1, 1, cs.set i r, by omega, by go_num, rfl, fin, ⟨blk_put hblk.out i _ (lc_set cs i r)⟩, ⟨below_set hB.out (Nat.le_refl _)⟩⟩
            case measure => simp [intOf]; omega
          · have c1b : decide (s < x) = false := decide_eq_false c1
            by_cases c2 : r < y
            · have c2b : decide (r < y) = true := decide_eq_true c2
              have fin := Aside0.mk (st2.out r 1 hib (by have := hR.out; omega) (by have := hR.out; omega) (by omega) (by omega) (by have := hR.out; have := hS.out; have := hx.out; omega))
              clear c1 c2
              go_wp2
              go_roundw
              case rel => exact ⟨i + 1, 1, cs.set i r, by omega, by go_num, rfl, fin, ⟨blk_put hblk.out i _ (lc_set cs i r)⟩, ⟨below_set hB.out (Nat.le_refl _)⟩⟩
              case measure => simp [intOf]; omega
            · have c2b : decide (r < y) = false := decide_eq_false c2
              have fin := Aside0.mk (st2.out r 0 hib (by have := hR.out; omega) (by have := hR.out; omega) (by omega) (by omega) (by have := hR.out; have := hS.out; have := hx.out; omega))
              clear c1 c2
              go_wp2
              go_roundw
              case rel => exact ⟨i + 1, 0, cs.set i r, by omega, by go_num, rfl, fin, ⟨blk_put hblk.out i _ (lc_set cs i r)⟩, ⟨below_set hB.out (Nat.le_refl _)⟩⟩
              case measure => simp [intOf]; omega
        · have hib1 : decide (i < a.length) = false := decide_eq_false hib
          have hib2 : decide ((i : Int) < (a.length : Int)) = false := decide_eq_false (by omega)
          by_cases c1 : s < x
          · have c1b : decide (s < x) = true := decide_eq_true c1
            have fin := Aside0.mk (st1.out s 1 (by omega) hs01.out.1 hs01.out.2 (by omega) (by omega) (by have := hS.out; have := hx.out; omega))
            clear c1
            go_wp2
            go_roundw
            case rel => exact ⟨i + 1, 1, cs.set i s, by omega, by go_num, rfl, fin, ⟨blk_put hblk.out i _ (lc_set cs i s)⟩, ⟨below_set hB.out (Nat.le_refl _)⟩⟩
            case measure => simp [intOf]; omega
          · have c1b : decide (s < x) = false := decide_eq_false c1
            have fin := Aside0.mk (st1.out s 0 (by omega) hs01.out.1 hs01.out.2 (by omega) (by omega) (by have := hS.out; have := hx.out; omega))
            clear c1
            go_wp2
            go_roundw
            case rel => exact ⟨i + 1, 0, cs.set i s, by omega, by go_num, rfl, fin, ⟨blk_put hblk.out i _ (lc_set cs i s)⟩, ⟨below_set hB.out (Nat.le_refl _)⟩⟩
            case measure => simp [intOf]; omega
      · obtain rfl : i = b.length := by omega
        have hfin := Aside0.mk (hI.out.done (by omega))
        have hnb := Aside0.mk (blk_put hblk.out b.length (.int .u64 cy) (lc_set cs b.length cy))
        have hrd := Aside0.mk ((Rd.of_block hnb.out (n := b.length + 1) (c := b.length + 1) (by have := hfin.out.2.2; omega) (Nat.le_refl _) (by omega)).of_eq (List.take_of_length_le (by have := hfin.out.2.2; omega)))
        have hlen := hfin.out.2.2
        have HL := Aside0.mk hlen
        clear hlen
        go_wp2_with fail
        have h := trim_calls (cs.set b.length cy) (some ⟨w.heap.size, 0, none⟩) (b.length + 1) _ hfin.out.1 hrd.out
        rw [HL.out] at h
        refine h.mono ?_
        rintro e w2 ⟨A2, c2, rfl, hr2, hB2⟩
        go_wp2
        go_ret
        exact ⟨A2, c2, by rw [hfin.out.2.1]; rfl, by rw [← hfin.out.2.1]; exact hr2, (below_set hB.out (Nat.le_refl _)).trans (hB2.mono (by have := hB.out.size; simpa using this))⟩
  · have hb : decide (a.length < b.length) = false := decide_eq_false hlt
    have hmk := fun w => mk_run (a.length + 1) (by omega) ((a.length : Int) + 1) (by omega) w
    go_enter Try.func111, Try.ntmps111
    go_wp2_with fail
    go_loopw [6, 23] (fun v6 v23 wr => ∃ (i : Nat) (cy : Int) (cs : List Int), i ≤ a.length ∧ v23 = .int .i64 i ∧ v6 = .int .u64 cy ∧ Aside0 (AddInv a b i cy cs) ∧ Aside0 (wr.heap[w.heap.size]? = some (.cells (lc cs) 76 (0, 0))) ∧ Aside0 (Below w.heap.size w wr)) (fun _ v23 _ => a.length - (intOf v23).toNat)
    case atStart => exact ⟨0, 0, _, by omega, rfl, rfl, ⟨AddInv.start _ _⟩, ⟨blk_new w _⟩, ⟨below_alloc (Below.refl _ _) _⟩⟩
    case round =>
      obtain ⟨i, cy, cs, hi, rfl, rfl, hI, hblk, hB⟩ := hrel
      have hcl := hI.out.1
      have hc0 := hI.out.2.2.1
      have hc1 := hI.out.2.2.2.1
      have hfz := blk_frozen hblk.out i
      have hcw : wr.cell? ⟨w.heap.size, i, none⟩ = some (.int .u64 (rd cs i)) := (blk_cell hblk.out i).trans (lc_at (by omega))
      clear hmk
      by_cases hil : i < a.length
      · obtain ⟨ad, rfl, hcell⟩ := Kd.at_int (HR.out.below hB.out).2 (i : Int) (by omega) (by omega)
        simp only [Int.toNat_natCast] at hcell
        have hx := Aside0.mk (DA.out.rd (i := (i : Int)) (by omega) (by omega))
        have st1 : Aside0 (∀ s cy' : Int, b.length ≤ i → 0 ≤ s → s < 18446744073709551616 → 0 ≤ cy' → cy' ≤ 1 → s + 18446744073709551616 * cy' = rd a i + cy → AddInv a b (i + 1) cy' (cs.set i s)) := ⟨fun s cy' h1 h2 h3 h4 h5 h6 => hI.out.step1 hil h1 h2 h3 h4 h5 h6 hx.out.1⟩
        have st2 : Aside0 (∀ s cy' : Int, i < b.length → 0 ≤ s → s < 18446744073709551616 → 0 ≤ cy' → cy' ≤ 1 → s + 18446744073709551616 * cy' = rd a i + rd b i + cy → AddInv a b (i + 1) cy' (cs.set i s)) := ⟨fun s cy' h1 h2 h3 h4 h5 h6 => hI.out.step2 hil h1 h2 h3 h4 h5 h6 hx.out.1 (DB.out.rd (i := (i : Int)) (by omega) (by omega)).1⟩
        generalize rd a i = x at *
        obtain ⟨s, hs⟩ : ∃ s, IntKind.u64.wrap (x + cy) = s := ⟨_, rfl⟩
        have hS := Aside0.mk (add_limb hx.out.1 hx.out.2 hc0 hc1 hs)
        have hs01 : Aside0 (0 ≤ s ∧ s < 18446744073709551616) := ⟨by have := hx.out; rcases hS.out with h | h <;> (rw [u64_wrap] at hs; omega)⟩
        by_cases hib : i < b.length
        · have hib1 : decide (i < b.length) = true := decide_eq_true hib
          have hib2 : decide ((i : Int) < (b.length : Int)) = true := decide_eq_true (by omega)
          obtain ⟨ad', rfl, hcell'⟩ := Kd.at_int (HR'.out.below hB.out).2 (i : Int) (by omega) (by omega)
          simp only [Int.toNat_natCast] at hcell'
          have hy := Aside0.mk (DB.out.rd (i := (i : Int)) (by omega) (by omega))
          generalize rd b i = y at *
          obtain ⟨r, hr⟩ : ∃ r, IntKind.u64.wrap (s + y) = r := ⟨_, rfl⟩
          have hR := Aside0.mk (add_limb2 hy.out.1 hy.out.2 hs01.out.1 hs01.out.2 hr)
          by_cases c1 : s < x
          · have c1b : decide (s < x) = true := decide_eq_true c1
            have c2 : ¬ r < y := by have := hR.out; have := hS.out; have := hy.out; omega
            have c2b : decide (r < y) = false := decide_eq_false c2
            have fin := Aside0.mk (st2.out r 1 hib (by have := hR.out; omega) (by have := hR.out; omega) (by omega) (by omega) (by have := hR.out; have := hS.out; have := hx.out; omega))
            clear c1 c2
            go_wp2
            go_roundw
            case rel => exact ⟨i + 1, 1, cs.set i r, by omega, by go_num, rfl, fin, ⟨blk_put hblk.out i _ (lc_set cs i r)⟩, ⟨below_set hB.out (Nat.le_refl _)⟩⟩
            case measure => simp [intOf]; omega
          · have c1b : decide (s < x) = false := decide_eq_false c1
            by_cases c2 : r < y
            · have c2b : decide (r < y) = true := decide_eq_true c2
              have fin := Aside0.mk (st2.out r 1 hib (by have := hR.out; omega) (by have := hR.out; omega) (by omega) (by omega) (by have := hR.out; have := hS.out; have := hx.out; omega))
              clear c1 c2
              go_wp2
              go_roundw
              case rel => exact ⟨i + 1, 1, cs.set i r, by omega, by go_num, rfl, fin, ⟨blk_put hblk.out i _ (lc_set cs i r)⟩, ⟨below_set hB.out (Nat.le_refl _)⟩⟩
              case measure => simp [intOf]; omega
            · have c2b : decide (r < y) = false := decide_eq_false c2
              have fin := Aside0.mk (st2.out r 0 hib (by have := hR.out; omega) (by have := hR.out; omega) (by omega) (by omega) (by have := hR.out; have := hS.out; have := hx.out; omega))
              clear c1 c2
              go_wp2
              go_roundw
              case rel => exact ⟨i + 1, 0, cs.set i r, by omega, by go_num, rfl, fin, ⟨blk_put hblk.out i _ (lc_set cs i r)⟩, ⟨below_set hB.out (Nat.le_refl _)⟩⟩
              case measure => simp [intOf]; omega
        · have hib1 : decide (i < b.length) = false := decide_eq_false hib
          have hib2 : decide ((i : Int) < (b.length : Int)) = false := decide_eq_false (by omega)
          by_cases c1 : s < x
          · have c1b : decide (s < x) = true := decide_eq_true c1
            have fin := Aside0.mk (st1.out s 1 (by omega) hs01.out.1 hs01.out.2 (by omega) (by omega) (by have := hS.out; have := hx.out; omega))
            clear c1
            go_wp2
            go_roundw
            case rel => exact ⟨i + 1, 1, cs.set i s, by omega, by go_num, rfl, fin, ⟨blk_put hblk.out i _ (lc_set cs i s)⟩, ⟨below_set hB.out (Nat.le_refl _)⟩⟩
            case measure => simp [intOf]; omega
          · have c1b : decide (s < x) = false := decide_eq_false c1
            have fin := Aside0.mk (st1.out s 0 (by omega) hs01.out.1 hs01.out.2 (by omega) (by omega) (by have := hS.out; have := hx.out; omega))
            clear c1
            go_wp2
            go_roundw
            case rel => exact ⟨i + 1, 0, cs.set i s, by omega, by go_num, rfl, fin, ⟨blk_put hblk.out i _ (lc_set cs i s)⟩, ⟨below_set hB.out (Nat.le_refl _)⟩⟩
            case measure => simp [intOf]; omega
      · obtain rfl : i = a.length := by omega
        have hfin := Aside0.mk (hI.out.done (by omega))
        have hnb := Aside0.mk (blk_put hblk.out a.length (.int .u64 cy) (lc_set cs a.length cy))
        have hrd := Aside0.mk ((Rd.of_block hnb.out (n := a.length + 1) (c := a.length + 1) (by have := hfin.out.2.2; omega) (Nat.le_refl _) (by omega)).of_eq (List.take_of_length_le (by have := hfin.out.2.2; omega)))
        have hlen := hfin.out.2.2
        have HL := Aside0.mk hlen
        clear hlen
        go_wp2_with fail
        have h := trim_calls (cs.set a.length cy) (some ⟨w.heap.size, 0, none⟩) (a.length + 1) _ hfin.out.1 hrd.out
        rw [HL.out] at h
        refine h.mono ?_
        rintro e w2 ⟨A2, c2, rfl, hr2, hB2⟩
        go_wp2
        go_ret
        exact ⟨A2, c2, by rw [hfin.out.2.1]; rfl, by rw [← hfin.out.2.1]; exact hr2, (below_set hB.out (Nat.le_refl _)).trans (hB2.mono (by have := hB.out.size; simpa using this))⟩
end
end Go.Proofs.Ythokdnheijnmmaa.Limbs
