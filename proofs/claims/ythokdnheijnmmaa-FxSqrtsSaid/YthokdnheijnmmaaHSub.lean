/- HSub: HCloneW, HBlk, HSub in one text. -/
import Derived.Test.YthokdnheijnmmaaHMods
import Derived.Lib.SliceRun
import Derived.Test.YthokdnheijnmmaaHLimbs
/- HCloneW. -/
set_option linter.unusedVariables false
namespace Go.Proofs.Ythokdnheijnmmaa.CloneW
open Go.RowKit Go.Proofs.YthokdnheijnmmaaW.PrintWords Go.Proofs.YthokdnheijnmmaaW.PrintLast Go.Proofs.YthokdnheijnmmaaW.PrintMore Go.Proofs.YthokdnheijnmmaaW.Aid

theorem info : (Try.prog.info? 76).map (fun i => (i.zero, i.size, i.bytes)) = some (some (.int .u64 0), 1, 8) := by kernel_rfl
set_option maxRecDepth 10000 in
set_option maxHeartbeats 400000 in
theorem bytes_calls (l : List Int) (A : Option Addr) (c : Nat) (w : World) (hr : Kd.C (Kd.int .u64) w A l.length l) (hle : l.length ≤ c) (hm : l.length * 8 ≤ 140737488355328) :
    Calls Try.prog 107 #[.slice A l.length c] w fun e w' => ∃ v, e = .returned v ∧ Kd.R (Kd.int .u64) 76 w' w.heap.size (fun _ => True) v l ∧ Below w.heap.size w w' := by
  have HR := Aside0.mk hr
  have HM := Aside0.mk hm
  have HL := Aside0.mk hle
  clear hr hm hle
  cases A with
  | none =>
    have hn1 := Lib.run_eql_slice_nil (P := Try.prog) w 56 76 none 0 c 0 0 Try.underlying56
    have e : l = [] := by
      have h := HR.out.2.2
      by_cases hl : 0 < l.length
      · obtain ⟨ad, h1, _⟩ := h hl
        cases h1
      · exact List.length_eq_zero_iff.1 (by omega)
    subst e
    go_enter Try.func107, Try.ntmps107
    go_wp2
    go_ret
    exact ⟨.slice none 0 0, rfl, Kd.R_nil _ _ _ _ _, Below.refl _ _⟩
  | some ad =>
    have hn1 := Lib.run_eql_slice_nil (P := Try.prog) w 56 76 (some ad) l.length c 0 0 Try.underlying56
    go_enter Try.func107, Try.ntmps107
    have h0 : Kd.R (Kd.int .u64) 76 (w.alloc (.cells #[] 76)) w.heap.size (fun _ => True) (.slice (some ⟨w.heap.size, 0, none⟩) 0 0) [] :=
      Kd.R_of_own ⟨rfl, .inr ⟨w.heap.size, 0, #[], rfl, Nat.le_refl _, blk_new _ _, Nat.le_refl _, by decide, rfl, rfl⟩⟩ (fun _ _ => trivial)
    have H0 := Aside0.mk h0
    clear h0
    go_wp2_with (first | ((with_reducible refine gate_builtin (b := .append) (xs := #[.tmp 5, .tmp 6]) rfl ?_); at_builtin; refine Kd.R_append_rows (Kd.int .u64) (w0 := w) w.heap.size rfl (.tmp 5) (.tmp 6) 56 76 (.int .u64 0) 8 rfl Try.underlying56 info rfl (by decide) (by omega) (.slice (some ⟨w.heap.size, 0, none⟩) 0 0) [] l _ _ _ (fun _ => True) (fun _ => False) rfl rfl H0.out (Kd.C_alloc HR.out _) (fun _ _ h => h) (fun _ h => h.elim) (fun _ _ => trivial) (below_alloc (Below.refl _ _) _) (by simp) (by have := HM.out; simp; omega) ?_; intro v1 w1 ho hb hg hat; have HO := Aside0.mk ho; have HB := Aside0.mk hb; clear ho hb hg hat))
    go_ret
    exact ⟨v1, rfl, HO.out, HB.out⟩
end Go.Proofs.Ythokdnheijnmmaa.CloneW
/- HBlk. -/
set_option linter.unusedVariables false
namespace Go.Proofs.Ythokdnheijnmmaa.Limbs
open Go.RowKit Go.Proofs.YthokdnheijnmmaaW.PrintWords Go.Proofs.YthokdnheijnmmaaW.PrintLast Go.Proofs.YthokdnheijnmmaaW.PrintMore Go.Proofs.YthokdnheijnmmaaW.Aid Go.Proofs.YthokdnheijnmmaaW.Big

/-- A block that holds these limbs first. -/
def Blk (w : World) (g : Nat) (l : List Int) : Prop := ∃ ex : Array Value, w.heap[g]? = some (.cells (lc l ++ ex) 76 (0, 0))
theorem Blk.cell {w : World} {g : Nat} {l : List Int} (h : Blk w g l) {i : Nat} (hi : i < l.length) : w.cell? ⟨g, i, none⟩ = some (.int .u64 (rd l i)) := by
  obtain ⟨ex, h⟩ := h
  refine (blk_cell h i).trans ?_
  rw [Array.getElem?_append_left (by rw [lc_size]; exact hi)]
  exact lc_at hi
theorem Blk.frozen {w : World} {g : Nat} {l : List Int} (h : Blk w g l) (i : Nat) : w.frozen? ⟨g, i, none⟩ = false := by
  obtain ⟨ex, h⟩ := h
  exact blk_frozen h i
theorem Blk.put {w : World} {g : Nat} {l : List Int} (h : Blk w g l) {i : Nat} (hi : i < l.length) (v : Int) : Blk (w.setCell ⟨g, i, none⟩ (.int .u64 v)) g (l.set i v) := by
  obtain ⟨ex, h⟩ := h
  refine ⟨ex, blk_put h i _ ?_⟩
  rw [← lc_set, Array.setIfInBounds_append_left]
  rw [lc_size]; exact hi
theorem Blk.rdn {w : World} {g : Nat} {l : List Int} (h : Blk w g l) {n c : Nat} (hn : n ≤ l.length) (hc : n ≤ c) (hm : n ≤ 9223372036854775807) : Rd w (l.take n) (some ⟨g, 0, none⟩) c := by
  have hl : (l.take n).length = n := by simp; omega
  refine ⟨by omega, ?_⟩
  refine ⟨rfl, by omega, fun _ => ⟨_, rfl, fun j p hj => ⟨[.int .u64 p], rfl, rfl, fun i u hu => ?_⟩⟩⟩
  have hi : i = 0 := by
    cases i with
    | zero => rfl
    | succ i => simp at hu
  subst hi
  simp at hu
  subst hu
  have hjn : j < n := by have := (List.getElem?_eq_some_iff.1 hj).1; omega
  have e : p = rd l (j : Int) := by
    rw [rd_nat (by omega)]
    rw [List.getElem?_take_of_lt hjn, List.getElem?_eq_getElem (by omega)] at hj
    exact (Option.some.inj hj).symm
  have := h.cell (i := j) (by omega)
  rw [e, ← this]
  show w.cell? ((⟨g, 0, none⟩ : Addr).add (j * 1 + 0)) = _
  congr 1
  simp [Addr.add]
  omega
theorem Blk.all {w : World} {g : Nat} {l : List Int} (h : Blk w g l) {c : Nat} (hc : l.length ≤ c) (hm : l.length ≤ 9223372036854775807) : Rd w l (some ⟨g, 0, none⟩) c := (h.rdn (Nat.le_refl _) hc hm).of_eq (List.take_length)
theorem Blk.drop {w : World} {g : Nat} {l : List Int} (h : Blk w g l) {k c : Nat} (hk : k ≤ l.length) (hc : l.length - k ≤ c) (hm : l.length ≤ 9223372036854775807) : Rd w (l.drop k) (some ⟨g, k, none⟩) c := by
  have hl : (l.drop k).length = l.length - k := by simp
  refine ⟨by omega, ?_⟩
  refine ⟨rfl, by omega, fun _ => ⟨_, rfl, fun j p hj => ⟨[.int .u64 p], rfl, rfl, fun i u hu => ?_⟩⟩⟩
  have hi : i = 0 := by
    cases i with
    | zero => rfl
    | succ i => simp at hu
  subst hi
  simp at hu
  subst hu
  have hjn : j < l.length - k := by have := (List.getElem?_eq_some_iff.1 hj).1; omega
  have e : p = rd l ((k + j : Nat) : Int) := by
    rw [rd_nat (by omega)]
    rw [List.getElem?_drop, List.getElem?_eq_getElem (by omega)] at hj
    exact (Option.some.inj hj).symm
  have := h.cell (i := k + j) (by omega)
  rw [e, ← this]
  show w.cell? ((⟨g, k, none⟩ : Addr).add (j * 1 + 0)) = _
  congr 1
  simp [Addr.add]
theorem Blk.below {w w1 : World} {g : Nat} {l : List Int} (h : Blk w g l) (hb : Below w.heap.size w w1) : Blk w1 g l := by
  obtain ⟨ex, h⟩ := h
  refine ⟨ex, ?_⟩
  rw [hb.block g (by exact (Array.getElem?_eq_some_iff.1 h).1)]
  exact h
theorem Blk.new (w : World) (l : List Int) : Blk (w.alloc (.cells (lc l) 76)) w.heap.size l := ⟨#[], by rw [Array.append_empty]; exact blk_new w _⟩
theorem Blk.lt {w : World} {g : Nat} {l : List Int} (h : Blk w g l) : g < w.heap.size := by
  obtain ⟨ex, h⟩ := h
  exact (Array.getElem?_eq_some_iff.1 h).1
/-- What a copy answers. -/
def CloneRet (l : List Int) (w : World) (e : Ending) (w' : World) : Prop :=
  Below w.heap.size w w' ∧ ((l = [] ∧ e = .returned (.slice none 0 0)) ∨ ∃ g c, e = .returned (.slice (some ⟨g, 0, none⟩) l.length c) ∧ w.heap.size ≤ g ∧ l.length ≤ c ∧ l.length ≤ 9223372036854775807 ∧ Blk w' g l)
theorem clone_calls (l : List Int) (A : Option Addr) (c : Nat) (w : World) (hr : Rd w l A c) (hm : l.length ≤ 100000) : Calls Try.prog 107 #[.slice A l.length c] w (CloneRet l w) := by
  refine (CloneW.bytes_calls l A c w hr.2 hr.1 (by omega)).mono ?_
  rintro e w' ⟨v, rfl, hR, hB⟩
  refine ⟨hB, ?_⟩
  have hO := Kd.own_of_R hR
  obtain ⟨h1, h2 | ⟨g, cap, cur, hv, hg, hcur, hn, hcap, hsz, htk⟩⟩ := hO
  · refine .inl ⟨List.length_eq_zero_iff.1 h2.2, by rw [h2.1]⟩
  · refine .inr ⟨g, cap, by rw [hv], hg, hn, by omega, cur.extract l.length cur.size, ?_⟩
    rw [hcur]
    congr 2
    apply Array.ext'
    rw [Array.toList_append, Array.toList_extract]
    simp only [Nat.mul_one] at htk
    have e1 : (lc l).toList = cur.toList.take l.length := by rw [htk]; simp [lc, encs]
    rw [e1]
    have : (cur.toList.drop l.length).take (cur.size - l.length) = cur.toList.drop l.length := List.take_of_length_le (by simp)
    rw [List.extract_eq_take_drop, this, List.take_append_drop]
end Go.Proofs.Ythokdnheijnmmaa.Limbs
/- HSub. -/
set_option linter.unusedVariables false
namespace Go.Proofs.Ythokdnheijnmmaa.Limbs
open Go.RowKit Go.Proofs.YthokdnheijnmmaaW.PrintWords Go.Proofs.YthokdnheijnmmaaW.PrintLast Go.Proofs.YthokdnheijnmmaaW.PrintMore Go.Proofs.YthokdnheijnmmaaW.Aid Go.Proofs.YthokdnheijnmmaaW.Big
section
set_option maxRecDepth 10000
set_option maxHeartbeats 1000000
/-- What holds behind so many limbs of a difference. -/
def SubInv (a b : List Int) (i : Nat) (bw : Int) (cs : List Int) : Prop :=
  cs.length = a.length ∧ Dig cs ∧ 0 ≤ bw ∧ bw ≤ 1 ∧ (∀ j : Nat, i ≤ j → rd cs j = rd a j) ∧ val (cs.take i) + val (b.take i) = val (a.take i) + 18446744073709551616 ^ i * bw.toNat
theorem SubInv.start {a b : List Int} (h : Dig a) : SubInv a b 0 0 a := ⟨rfl, h, by omega, by omega, fun _ _ => rfl, by simp [val]⟩
theorem SubInv.step {a b cs : List Int} {i : Nat} {bw : Int} (h : SubInv a b i bw cs) (hi : i < a.length) {x y r bw' : Int} (hx : rd a i = x) (hy : (i < b.length ∧ rd b i = y ∧ 0 ≤ y) ∨ (b.length ≤ i ∧ y = 0)) (hx0 : 0 ≤ x) (hr0 : 0 ≤ r) (hr1 : r < 18446744073709551616) (hb0 : 0 ≤ bw') (hb1 : bw' ≤ 1)
    (e : r + y + bw = x + 18446744073709551616 * bw') : SubInv a b (i + 1) bw' (cs.set i r) := by
  obtain ⟨h1, h2, h3, h4, h5, h6⟩ := h
  refine ⟨by simpa using h1, h2.set i hr0 hr1, hb0, hb1, fun j hj => ?_, ?_⟩
  · rw [rd_set_ne _ (by omega)]
    exact h5 j (by omega)
  · have eb : val (b.take (i + 1)) = val (b.take i) + 18446744073709551616 ^ i * y.toNat := by
      rcases hy with ⟨h, rfl, _⟩ | ⟨h, rfl⟩
      · exact val_take_succ h
      · rw [take_ge h]; simp
    have hy0 : 0 ≤ y := by rcases hy with ⟨_, _, h⟩ | ⟨_, h⟩ <;> omega
    rw [val_set_take (by omega), val_take_succ hi, eb, hx, Nat.pow_succ, Nat.mul_assoc]
    have e' : r.toNat + y.toNat + bw.toNat = x.toNat + 18446744073709551616 * bw'.toNat := by omega
    have := congrArg (18446744073709551616 ^ i * ·) e'
    simp only [Nat.mul_add] at this
    omega
theorem SubInv.done {a b cs : List Int} {bw : Int} (h : SubInv a b a.length bw cs) (hv : val b ≤ val a) (hl : b.length ≤ a.length) : Dig cs ∧ val cs = val a - val b ∧ cs.length = a.length := by
  obtain ⟨h1, h2, h3, h4, h5, h6⟩ := h
  have hlt := val_lt h2
  rw [List.take_of_length_le (by omega), List.take_of_length_le hl, List.take_length] at h6
  rw [h1] at hlt
  have hbw : bw.toNat = 0 := by
    rcases Nat.eq_zero_or_pos bw.toNat with h | h
    · exact h
    · have : bw.toNat = 1 := by omega
      rw [this] at h6
      omega
  rw [hbw] at h6
  exact ⟨h2, by omega, h1⟩
theorem sub_y {y bw s : Int} (hy0 : 0 ≤ y) (hy1 : y < 18446744073709551616) (hc0 : 0 ≤ bw) (hc1 : bw ≤ 1) (h : IntKind.u64.wrap (bw + y) = s) : (¬ s < y ∧ s = bw + y ∧ 0 ≤ s ∧ s < 18446744073709551616) ∨ (s < y ∧ bw = 1 ∧ y = 18446744073709551615 ∧ s = 0) := by
  rw [u64_wrap] at h
  omega
theorem sub_x {x s r : Int} (hx0 : 0 ≤ x) (hx1 : x < 18446744073709551616) (hs0 : 0 ≤ s) (hs1 : s < 18446744073709551616) (h : IntKind.u64.wrap (x - s) = r) : 0 ≤ r ∧ r < 18446744073709551616 ∧ ((¬ x < s ∧ r = x - s) ∨ (x < s ∧ r = x - s + 18446744073709551616)) := by
  rw [u64_wrap] at h
  omega
theorem sub_calls (a b : List Int) (A A' : Option Addr) (c c' : Nat) (w : World) (hda : Dig a) (hdb : Dig b) (hr : Rd w a A c) (hr' : Rd w b A' c') (hla : a.length ≤ 1000) (hl : b.length ≤ a.length) (hv : val b ≤ val a) :
    Calls Try.prog 112 #[.slice A a.length c, .slice A' b.length c'] w (RetRd (limbs (val a - val b)) w) := by
  have HR := Aside0.mk hr
  have HR' := Aside0.mk hr'
  have DA := Aside0.mk hda
  have DB := Aside0.mk hdb
  have HV := Aside0.mk hv
  clear hr hr' hda hdb hv
  go_enter Try.func112, Try.ntmps112
  go_wp2_with fail
  refine (clone_calls a A c _ HR.out (by omega)).mono ?_
  rintro e w1 ⟨hB1, ⟨hnil, rfl⟩ | ⟨g, cp, rfl, hg, hcp, hm, hblk1⟩⟩
  · have HB1 := Aside0.mk hB1
    have e0 : Aside0 (limbs (val a - val b) = []) := ⟨by rw [hnil, show val [] = 0 from rfl, Nat.zero_sub, limbs_zero]⟩
    clear hB1
    subst hnil
    go_wp2_with fail
    go_loopw [6, 13] (fun v6 v13 wr => v13 = .int .i64 0 ∧ w1 = wr) (fun _ _ _ => 0)
    case atStart => exact ⟨rfl, rfl⟩
    case round =>
      obtain ⟨rfl, rfl⟩ := hrel
      go_wp2_with fail
      refine (trim_calls [] none 0 _ (fun x hx => by simp at hx) (Rd.nil _)).mono ?_
      rintro e w2 ⟨A2, c2, rfl, hr2, hB2⟩
      go_wp2
      go_ret
      refine ⟨A2, c2, ?_, ?_, HB1.out.trans (hB2.mono HB1.out.size)⟩
      · rw [e0.out, show limbs (val []) = [] from limbs_zero]; rfl
      · rw [e0.out]; exact hr2.of_eq limbs_zero
  · have HB1 := Aside0.mk hB1
    have hg := Aside0.mk hg
    have hcp := Aside0.mk hcp
    have hblk1 := Aside0.mk hblk1
    have hm := Aside0.mk hm
    clear hB1
    go_wp2_with fail
    go_loopw [6, 13] (fun v6 v13 wr => ∃ (i : Nat) (bw : Int) (cs : List Int), i ≤ a.length ∧ v13 = .int .i64 i ∧ v6 = .int .u64 bw ∧ Aside0 (SubInv a b i bw cs) ∧ Aside0 (Blk wr g cs) ∧ Aside0 (Below w.heap.size w wr)) (fun _ v13 _ => a.length - (intOf v13).toNat)
    case atStart => exact ⟨0, 0, a, by omega, rfl, rfl, ⟨SubInv.start DA.out⟩, hblk1, HB1⟩
    case round =>
      obtain ⟨i, bw, cs, hi, rfl, rfl, hI, hblk, hB⟩ := hrel
      have hcl := hI.out.1
      have hc0 := hI.out.2.2.1
      have hc1 := hI.out.2.2.2.1
      by_cases hil : i < a.length
      · have hfz := hblk.out.frozen i
        have hcw : wr.cell? ⟨g, i, none⟩ = some (.int .u64 (rd a i)) := by rw [← hI.out.2.2.2.2.1 i (Nat.le_refl _)]; exact hblk.out.cell (by omega)
        have hx := Aside0.mk (DA.out.rd (i := (i : Int)) (by omega) (by omega))
        generalize hxx : rd a i = x at *
        have hxx := Aside0.mk hxx
        by_cases hib : i < b.length
        · have hib1 : decide (i < b.length) = true := decide_eq_true hib
          have hib2 : decide ((i : Int) < (b.length : Int)) = true := decide_eq_true (by omega)
          obtain ⟨ad', rfl, hcell'⟩ := Kd.at_int (HR'.out.below hB.out).2 (i : Int) (by omega) (by omega)
          simp only [Int.toNat_natCast] at hcell'
          have hy := Aside0.mk (DB.out.rd (i := (i : Int)) (by omega) (by omega))
          generalize hyy : rd b i = y at *
          have hyy := Aside0.mk hyy
          obtain ⟨s, hs⟩ : ∃ s, IntKind.u64.wrap (bw + y) = s := ⟨_, rfl⟩
          have hS := Aside0.mk (sub_y hy.out.1 hy.out.2 hc0 hc1 hs)
          obtain ⟨r, hr⟩ : ∃ r, IntKind.u64.wrap (x - s) = r := ⟨_, rfl⟩
          have hR := Aside0.mk (sub_x hx.out.1 hx.out.2 (by have := hS.out; omega) (by have := hS.out; omega) hr)
          by_cases c1 : s < y
          · have c1b : decide (s < y) = true := decide_eq_true c1
            have c2 : ¬ x < s := by have := hR.out; have := hS.out; have := hx.out; omega
            have c2b : decide (x < s) = false := decide_eq_false c2
            have fin := Aside0.mk (hI.out.step hil (x := x) (y := y) (r := r) (bw' := 1) hxx.out (.inl ⟨hib, hyy.out, hy.out.1⟩) hx.out.1 hR.out.1 hR.out.2.1 (by omega) (by omega) (by have := hR.out; have := hS.out; have := hy.out; have := hx.out; omega))
            clear c1 c2
            go_wp2
            go_roundw
            case rel => exact ⟨i + 1, 1, cs.set i r, by omega, by go_num, rfl, fin, ⟨hblk.out.put (by omega) r⟩, ⟨below_set hB.out hg.out⟩⟩
            case measure => simp [intOf]; omega
          · have c1b : decide (s < y) = false := decide_eq_false c1
            by_cases c2 : x < s
            · have c2b : decide (x < s) = true := decide_eq_true c2
              have fin := Aside0.mk (hI.out.step hil (x := x) (y := y) (r := r) (bw' := 1) hxx.out (.inl ⟨hib, hyy.out, hy.out.1⟩) hx.out.1 hR.out.1 hR.out.2.1 (by omega) (by omega) (by have := hR.out; have := hS.out; have := hy.out; have := hx.out; omega))
              clear c1 c2
              go_wp2
              go_roundw
              case rel => exact ⟨i + 1, 1, cs.set i r, by omega, by go_num, rfl, fin, ⟨hblk.out.put (by omega) r⟩, ⟨below_set hB.out hg.out⟩⟩
              case measure => simp [intOf]; omega
            · have c2b : decide (x < s) = false := decide_eq_false c2
              have fin := Aside0.mk (hI.out.step hil (x := x) (y := y) (r := r) (bw' := 0) hxx.out (.inl ⟨hib, hyy.out, hy.out.1⟩) hx.out.1 hR.out.1 hR.out.2.1 (by omega) (by omega) (by have := hR.out; have := hS.out; have := hy.out; have := hx.out; omega))
              clear c1 c2
              go_wp2
              go_roundw
              case rel => exact ⟨i + 1, 0, cs.set i r, by omega, by go_num, rfl, fin, ⟨hblk.out.put (by omega) r⟩, ⟨below_set hB.out hg.out⟩⟩
              case measure => simp [intOf]; omega
        · have hib1 : decide (i < b.length) = false := decide_eq_false hib
          have hib2 : decide ((i : Int) < (b.length : Int)) = false := decide_eq_false (by omega)
          obtain ⟨r, hr⟩ : ∃ r, IntKind.u64.wrap (x - bw) = r := ⟨_, rfl⟩
          have hR := Aside0.mk (sub_x hx.out.1 hx.out.2 hc0 (by omega) hr)
          by_cases c2 : x < bw
          · have c2b : decide (x < bw) = true := decide_eq_true c2
            have fin := Aside0.mk (hI.out.step hil (x := x) (y := 0) (r := r) (bw' := 1) hxx.out (.inr ⟨by omega, rfl⟩) hx.out.1 hR.out.1 hR.out.2.1 (by omega) (by omega) (by have := hR.out; have := hx.out; omega))
            clear c2
            go_wp2
            go_roundw
            case rel => exact ⟨i + 1, 1, cs.set i r, by omega, by go_num, rfl, fin, ⟨hblk.out.put (by omega) r⟩, ⟨below_set hB.out hg.out⟩⟩
            case measure => simp [intOf]; omega
          · have c2b : decide (x < bw) = false := decide_eq_false c2
            have fin := Aside0.mk (hI.out.step hil (x := x) (y := 0) (r := r) (bw' := 0) hxx.out (.inr ⟨by omega, rfl⟩) hx.out.1 hR.out.1 hR.out.2.1 (by omega) (by omega) (by have := hR.out; have := hx.out; omega))
            clear c2
            go_wp2
            go_roundw
            case rel => exact ⟨i + 1, 0, cs.set i r, by omega, by go_num, rfl, fin, ⟨hblk.out.put (by omega) r⟩, ⟨below_set hB.out hg.out⟩⟩
            case measure => simp [intOf]; omega
      · obtain rfl : i = a.length := by omega
        have hfin := Aside0.mk (hI.out.done HV.out hl)
        have hrd := Aside0.mk (hblk.out.all (c := cp) (by have := hcp.out; omega) (by have := hm.out; omega))
        go_wp2_with fail
        have h := trim_calls cs (some ⟨g, 0, none⟩) cp _ hfin.out.1 hrd.out
        rw [hcl] at h
        refine h.mono ?_
        rintro e w2 ⟨A2, c2, rfl, hr2, hB2⟩
        go_wp2
        go_ret
        exact ⟨A2, c2, by rw [hfin.out.2.1]; rfl, by rw [← hfin.out.2.1]; exact hr2, hB.out.trans (hB2.mono hB.out.size)⟩
end
end Go.Proofs.Ythokdnheijnmmaa.Limbs
