/- HInt: HMul, HInt in one text. -/
import Derived.Test.YthokdnheijnmmaaHShift
/- HMul. -/
set_option linter.unusedVariables false
namespace Go.Proofs.Ythokdnheijnmmaa.Limbs
open Go.RowKit Go.Proofs.YthokdnheijnmmaaW.PrintWords Go.Proofs.YthokdnheijnmmaaW.PrintLast Go.Proofs.YthokdnheijnmmaaW.PrintMore Go.Proofs.YthokdnheijnmmaaW.Aid Go.Proofs.YthokdnheijnmmaaW.Big Go.Proofs.Ythokdnheijnmmaa.BitsWalk
/-- What holds behind so many limbs of the one factor. -/
def MulInv (a b : List Int) (i : Nat) (cs : List Int) : Prop :=
  cs.length = a.length + b.length ∧ Dig cs ∧ (∀ j : Nat, i + b.length ≤ j → rd cs j = 0) ∧ val (cs.take (i + b.length)) = val (a.take i) * val b
/-- And behind so many of the other, in a row. -/
def RowInv (b cs0 : List Int) (i : Nat) (x : Int) (k : Nat) (cy : Int) (cs : List Int) : Prop :=
  cs.length = cs0.length ∧ Dig cs ∧ 0 ≤ cy ∧ cy < 18446744073709551616 ∧ (∀ j : Nat, i + k ≤ j → rd cs j = rd cs0 j) ∧
    val (cs.take (i + k)) + 18446744073709551616 ^ (i + k) * cy.toNat = val (cs0.take (i + k)) + 18446744073709551616 ^ i * (x.toNat * val (b.take k))
theorem MulInv.start (a b : List Int) : MulInv a b 0 (List.replicate (a.length + b.length) 0) := by
  refine ⟨by simp, Dig.zeros _, fun j _ => rd_zeros, ?_⟩
  rw [List.take_replicate, val_zeros]
  simp [val]
theorem RowInv.start {a b cs : List Int} {i : Nat} (h : MulInv a b i cs) (x : Int) : RowInv b cs i x 0 0 cs := by
  refine ⟨rfl, h.2.1, by omega, by omega, fun _ _ => rfl, ?_⟩
  simp [val]
/-- A product of two limbs, with two more. -/
theorem row_limb {x y z cy : Int} (hx0 : 0 ≤ x) (hx1 : x < 18446744073709551616) (hy0 : 0 ≤ y) (hy1 : y < 18446744073709551616) (hz0 : 0 ≤ z) (hz1 : z < 18446744073709551616) (hc0 : 0 ≤ cy) (hc1 : cy < 18446744073709551616) :
    ∃ hi lo s1 o1 s2 o2 : Int, x * y / 18446744073709551616 = hi ∧ x * y % 18446744073709551616 = lo ∧ 0 ≤ lo ∧ (lo + cy + 0) % 18446744073709551616 = s1 ∧ (lo + cy + 0) / 18446744073709551616 = o1 ∧ 0 ≤ s1 ∧ (z + s1 + 0) % 18446744073709551616 = s2 ∧ (z + s1 + 0) / 18446744073709551616 = o2 ∧
      IntKind.u64.wrap (hi + o1) = hi + o1 ∧ IntKind.u64.wrap (hi + o1 + o2) = hi + o1 + o2 ∧ 0 ≤ s2 ∧ s2 < 18446744073709551616 ∧ 0 ≤ hi + o1 + o2 ∧ hi + o1 + o2 < 18446744073709551616 ∧ s2 + 18446744073709551616 * (hi + o1 + o2) = z + x * y + cy := by
  have h1 : x * y ≤ 18446744073709551615 * 18446744073709551615 := Int.mul_le_mul (by omega) (by omega) hy0 (by omega)
  have h0 : 0 ≤ x * y := Int.mul_nonneg hx0 hy0
  refine ⟨_, _, _, _, _, _, rfl, rfl, ?_, rfl, rfl, ?_, rfl, rfl, ?_, ?_, ?_, ?_, ?_, ?_, ?_⟩ <;> (generalize x * y = p at *) <;> (try rw [u64_wrap]) <;> omega
theorem RowInv.step {b cs0 cs : List Int} {i k : Nat} {x cy y z s cy' : Int} (h : RowInv b cs0 i x k cy cs) (hk : k < b.length) (hl : i + k < cs0.length) (hx0 : 0 ≤ x) (hy : rd b k = y) (hy0 : 0 ≤ y) (hz : rd cs0 ((i + k : Nat) : Int) = z) (hz0 : 0 ≤ z) (hs0 : 0 ≤ s) (hs1 : s < 18446744073709551616) (hc0 : 0 ≤ cy') (hc1 : cy' < 18446744073709551616)
    (e : s + 18446744073709551616 * cy' = z + x * y + cy) : RowInv b cs0 i x (k + 1) cy' (cs.set (i + k) s) := by
  obtain ⟨h1, h2, h3, h4, h5, h6⟩ := h
  refine ⟨by simpa using h1, h2.set _ hs0 hs1, hc0, hc1, fun j hj => ?_, ?_⟩
  · rw [rd_set_ne _ (by omega)]; exact h5 j (by omega)
  · rw [show i + (k + 1) = i + k + 1 by omega, val_set_take (by omega), val_take_succ hk, val_take_succ hl, hy, hz]
    have e' : s.toNat + 18446744073709551616 * cy'.toNat = z.toNat + x.toNat * y.toNat + cy.toNat := by
      have hp : ((x.toNat * y.toNat : Nat) : Int) = x * y := by rw [Int.natCast_mul, Int.toNat_of_nonneg hx0, Int.toNat_of_nonneg hy0]
      omega
    have t := congrArg (18446744073709551616 ^ (i + k) * ·) e'
    simp only [Nat.mul_add] at t
    have q1 : 18446744073709551616 ^ (i + k + 1) * cy'.toNat = 18446744073709551616 ^ (i + k) * (18446744073709551616 * cy'.toNat) := by rw [Nat.pow_succ, Nat.mul_assoc]
    have q2 : 18446744073709551616 ^ i * (x.toNat * (18446744073709551616 ^ k * y.toNat)) = 18446744073709551616 ^ (i + k) * (x.toNat * y.toNat) := by
      rw [Nat.pow_add]; ac_rfl
    rw [Nat.mul_add x.toNat, Nat.mul_add, q1, q2]
    omega
theorem MulInv.step {a b cs0 cs : List Int} {i : Nat} {x cy : Int} (h : MulInv a b i cs0) (hi : i < a.length) (hx : rd a i = x) (hr : RowInv b cs0 i x b.length cy cs) : MulInv a b (i + 1) (cs.set (i + b.length) cy) := by
  obtain ⟨h1, h2, h3, h4⟩ := h
  obtain ⟨r1, r2, r3, r4, r5, r6⟩ := hr
  refine ⟨by rw [List.length_set]; omega, r2.set _ r3 r4, fun j hj => ?_, ?_⟩
  · rw [rd_set_ne _ (by omega), r5 j (by omega)]; exact h3 j (by omega)
  · rw [show i + 1 + b.length = i + b.length + 1 by omega, val_set_take (by omega), r6, h4, val_take_succ hi, hx, List.take_length, Nat.add_mul]
    ac_rfl
theorem MulInv.done {a b cs : List Int} (h : MulInv a b a.length cs) : Dig cs ∧ val cs = val a * val b := by
  obtain ⟨h1, h2, h3, h4⟩ := h
  rw [List.take_of_length_le (by omega), List.take_length] at h4
  exact ⟨h2, h4⟩
section
set_option maxRecDepth 100000
set_option maxHeartbeats 1000000
theorem schoolbook_calls (a b : List Int) (A A' : Option Addr) (c c' : Nat) (w : World) (hda : Dig a) (hdb : Dig b) (hr : Rd w a A c) (hr' : Rd w b A' c') (hla : a.length ≤ 1000) (hlb : b.length ≤ 1000) :
    Calls Try.prog 126 #[.slice A a.length c, .slice A' b.length c'] w (RetRd (limbs (val a * val b)) w) := by
  have HR := Aside0.mk hr
  have HR' := Aside0.mk hr'
  have DA := Aside0.mk hda
  have DB := Aside0.mk hdb
  have hmk := fun w => mk_run (a.length + b.length) (by omega) ((a.length : Int) + (b.length : Int)) (by omega) w
  clear hr hr' hda hdb
  go_enter Try.func126, Try.ntmps126
  go_wp2_with fail
  go_loopw [23] (fun v23 wr => ∃ (i : Nat) (cs : List Int), i ≤ a.length ∧ v23 = .int .i64 i ∧ Aside0 (MulInv a b i cs) ∧ Aside0 (Blk wr w.heap.size cs) ∧ Aside0 (Below w.heap.size w wr)) (fun v23 _ => a.length - (intOf v23).toNat)
  case atStart => exact ⟨0, _, by omega, rfl, ⟨MulInv.start a b⟩, ⟨Blk.new w _⟩, ⟨below_alloc (Below.refl _ _) _⟩⟩
  case round =>
    obtain ⟨i, cs0, hi, rfl, hI, hblk0, hB0⟩ := hrel
    have hcl0 := hI.out.1
    clear hmk
    by_cases hil : i < a.length
    · obtain ⟨ad, rfl, hcell⟩ := Kd.at_int (HR.out.below hB0.out).2 (i : Int) (by omega) (by omega)
      simp only [Int.toNat_natCast] at hcell
      have hx := Aside0.mk (DA.out.rd (i := (i : Int)) (by omega) (by omega))
      generalize hxx : rd a i = x at *
      have hxx := Aside0.mk hxx
      have hrl : i + b.length + 1 - i = b.length + 1 := by omega
      go_wp2_with fail
      simp only [hrl]
      go_loopw [9, 43] (fun v9 v43 wr2 => ∃ (k : Nat) (cy : Int) (cs : List Int), k ≤ b.length ∧ v43 = .int .i64 k ∧ v9 = .int .u64 cy ∧ Aside0 (RowInv b cs0 i x k cy cs) ∧ Aside0 (Blk wr2 w.heap.size cs) ∧ Aside0 (Below w.heap.size w wr2)) (fun _ v43 _ => b.length - (intOf v43).toNat)
      case atStart => exact ⟨0, 0, cs0, by omega, rfl, rfl, ⟨RowInv.start hI.out x⟩, hblk0, hB0⟩
      case round =>
        obtain ⟨k, cy, cs, hk, rfl, rfl, hJ, hblk, hB⟩ := hrel
        have hcl := hJ.out.1
        by_cases hkl : k < b.length
        · obtain ⟨ad', rfl, hcell'⟩ := Kd.at_int (HR'.out.below hB.out).2 (k : Int) (by omega) (by omega)
          simp only [Int.toNat_natCast] at hcell'
          have hy := Aside0.mk (DB.out.rd (i := (k : Int)) (by omega) (by omega))
          have hzz : Aside0 (rd cs ((i + k : Nat) : Int) = rd cs0 ((i + k : Nat) : Int)) := ⟨hJ.out.2.2.2.2.1 (i + k) (Nat.le_refl _)⟩
          have hcw : wr.cell? ⟨w.heap.size, i + k, none⟩ = some (.int .u64 (rd cs0 ((i + k : Nat) : Int))) := by rw [← hzz.out]; exact hblk.out.cell (by omega)
          have hfz := hblk.out.frozen (i + k)
          have hz := Aside0.mk (hI.out.2.1.rd (i := ((i + k : Nat) : Int)) (by omega) (by omega))
          generalize hyy : rd b k = y at *
          generalize hz2 : rd cs0 ((i + k : Nat) : Int) = z at *
          obtain ⟨mh, lo, s1, o1, s2, o2, e1, e2, e3, e4, e5, e6, e7, e8, e9, e10, e11, e12, e13, e14, e15⟩ := row_limb hx.out.1 hx.out.2 hy.out.1 hy.out.2 hz.out.1 hz.out.2 hJ.out.2.2.1 hJ.out.2.2.2.1
          have fin := Aside0.mk (hJ.out.step hkl (by omega) hx.out.1 hyy hy.out.1 hz2 hz.out.1 e11 e12 e13 e14 e15)
          have MU := mul64_calls x y wr hx.out.1 hx.out.2 hy.out.1 hy.out.2
          rw [e1, e2] at MU
          have AD1 := fun w => add64_run lo cy 0 e3 hJ.out.2.2.1 (by omega) (by omega) w
          simp only [e4, e5] at AD1
          have AD2 := fun w => add64_run z s1 0 hz.out.1 e6 (by omega) (by omega) w
          simp only [e7, e8] at AD2
          have hyy := Aside0.mk hyy
          have hz2 := Aside0.mk hz2
          have MU := Aside0.mk MU
          clear e1 e2 e3 e4 e5 e6 e7 e8 e11 e12 e13 e14 e15
          go_wp2_with fail
          refine MU.out.mono ?_
          rintro e w1 ⟨rfl, rfl⟩
          go_wp2
          go_roundw
          case rel => exact ⟨k + 1, _, _, by omega, by go_num, rfl, fin, ⟨hblk.out.put (by omega) _⟩, ⟨below_set hB.out (Nat.le_refl _)⟩⟩
          case measure => simp [intOf]; omega
        · obtain rfl : k = b.length := by omega
          have fin := Aside0.mk (hI.out.step hil hxx.out hJ.out)
          have hcw : wr.cell? ⟨w.heap.size, i + b.length, none⟩ = some (.int .u64 (rd cs ((i + b.length : Nat) : Int))) := hblk.out.cell (by omega)
          have hfz := hblk.out.frozen (i + b.length)
          go_wp2
          go_roundw
          case rel => exact ⟨i + 1, _, by omega, by go_num, fin, ⟨hblk.out.put (by omega) _⟩, ⟨below_set hB.out (Nat.le_refl _)⟩⟩
          case measure => simp [intOf]; omega
    · obtain rfl : i = a.length := by omega
      have hfin := Aside0.mk (hI.out.done)
      have hrd := Aside0.mk (hblk0.out.all (c := a.length + b.length) (by omega) (by omega))
      go_wp2_with fail
      have h := trim_calls cs0 (some ⟨w.heap.size, 0, none⟩) (a.length + b.length) _ hfin.out.1 hrd.out
      rw [hcl0] at h
      refine h.mono ?_
      rintro e w2 ⟨A2, c2, rfl, hr2, hB2⟩
      go_wp2
      go_ret
      exact ⟨A2, c2, by rw [hfin.out.2]; rfl, by rw [← hfin.out.2]; exact hr2, hB0.out.trans (hB2.mono hB0.out.size)⟩
theorem mul_calls (a b : List Int) (A A' : Option Addr) (c c' : Nat) (w : World) (hda : Dig a) (hdb : Dig b) (hr : Rd w a A c) (hr' : Rd w b A' c') (hla : a.length ≤ 1000) (hlb : b.length < 24) :
    Calls Try.prog 120 #[.slice A a.length c, .slice A' b.length c'] w (RetRd (limbs (val a * val b)) w) := by
  have SB := Aside0.mk (schoolbook_calls a b A A' c c' w hda hdb hr hr' hla (by omega))
  have hm : min (a.length : Int) (b.length : Int) < 24 := by omega
  have hmb : decide (min (a.length : Int) (b.length : Int) < 24) = true := decide_eq_true hm
  clear hr hr' hda hdb
  go_enter Try.func120, Try.ntmps120
  go_wp2_with fail
  refine SB.out.mono ?_
  rintro e w2 ⟨A2, c2, rfl, hr2, hB2⟩
  go_wp2
  go_ret
  exact ⟨A2, c2, rfl, hr2, hB2⟩
end
end Go.Proofs.Ythokdnheijnmmaa.Limbs
/- HInt. -/
set_option linter.unusedVariables false
namespace Go.Proofs.Ythokdnheijnmmaa.Whole
open Go.RowKit Go.Proofs.YthokdnheijnmmaaW.PrintWords Go.Proofs.YthokdnheijnmmaaW.PrintLast Go.Proofs.YthokdnheijnmmaaW.PrintMore Go.Proofs.YthokdnheijnmmaaW.Aid Go.Proofs.YthokdnheijnmmaaW.Big Go.Proofs.Ythokdnheijnmmaa.BitsWalk Go.Proofs.Ythokdnheijnmmaa.Limbs
/-- A number of any size, in memory. -/
def iv (x : Int) (A : Option Addr) (c : Nat) : Value := .agg #[.bool (sgn x), .slice A (lm x).length c]
/-- What a function of numbers answers. -/
def RetI (x : Int) (w : World) (e : Ending) (w' : World) : Prop := ∃ A c, e = .returned (iv x A c) ∧ Rd w' (lm x) A c ∧ Below w.heap.size w w'
/-- A magnitude with a sign. -/
def ofS (b : Bool) (m : Nat) : Int := if b then -(m : Int) else m
theorem lm_ofS (b : Bool) (m : Nat) : lm (ofS b m) = limbs m := by
  unfold lm ofS
  cases b <;> simp
theorem sgn_ofS (b : Bool) (m : Nat) : sgn (ofS b m) = (b && decide (0 < (limbs m).length)) := by
  have h : decide (0 < (limbs m).length) = decide (m ≠ 0) := by
    apply decide_eq_decide.2
    rw [List.length_pos_iff, ne_eq, limbs_ne]
  rw [h]
  unfold sgn ofS
  cases b
  · simp
  · by_cases h0 : m = 0
    · subst h0; simp
    · simp [h0]; omega
theorem blk_below {w w1 : World} {g : Nat} {o : Obj} (h : w.heap[g]? = some o) (hb : Below w.heap.size w w1) : w1.heap[g]? = some o := by
  rw [hb.block g (Array.getElem?_eq_some_iff.1 h).1]; exact h
theorem row_at {w : World} {g : Nat} {t : TypeId} {old : Array Value} (h : w.heap[g]? = some (.cells old t (0, 0))) (cs : Array Value) : (w.setRow g cs).heap[g]? = some (.cells cs t (0, 0)) := setRow_heap w g old cs t (0, 0) h
theorem row_below {w W : World} {g : Nat} (h : Below w.heap.size w W) (hg : w.heap.size ≤ g) (cs : Array Value) : Below w.heap.size w (W.setRow g cs) := by
  refine ⟨h.os, h.tape, h.output, by simpa [World.setRow] using h.size, fun k hk => ?_⟩
  rw [← h.block k hk]
  simp only [World.setRow]
  rw [Array.getElem?_modify]
  rw [if_neg (by omega)]
/-- A number's limbs do not lie in a struct's block. -/
theorem Rd.setRow {w : World} {l : List Int} {A : Option Addr} {c g : Nat} {old : Array Value} {t : TypeId} (h : Rd w l A c) (hg : w.heap[g]? = some (.cells old t (0, 0))) (ho : ∀ (j : Nat) (x : Int), old[j]? ≠ some (.int .u64 x)) (cs : Array Value) : Rd (w.setRow g cs) l A c := by
  refine ⟨h.1, h.2.1, h.2.2.1, fun hpos => ?_⟩
  obtain ⟨ad, hA, hc⟩ := h.2.2.2 hpos
  refine ⟨ad, hA, fun j p hj => ?_⟩
  obtain ⟨cs1, h1, h2, h3⟩ := hc j p hj
  refine ⟨cs1, h1, h2, fun i u hu => ?_⟩
  have h4 := h3 i u hu
  have hu' : u = .int .u64 p := by
    have h5 : cs1 = [.int .u64 p] := h2
    subst h5
    cases i with
    | zero => simpa using hu.symm
    | succ i => simp at hu
  rw [cell_setRow_other _ _ _ _ ?_]
  · exact h4
  · intro e
    rw [hu'] at h4
    unfold World.cell? at h4
    rw [e, hg] at h4
    simp only at h4
    split at h4
    · cases h4
    · exact ho _ _ h4
theorem noInts (b : Bool) (A : Option Addr) (n c : Nat) : ∀ (j : Nat) (x : Int), (#[Value.bool b, Value.slice A n c] : Array Value)[j]? ≠ some (.int .u64 x) := by
  intro j x h
  match j with
  | 0 => simp at h
  | 1 => simp at h
  | j + 2 => simp at h
section
set_option maxRecDepth 100000
set_option maxHeartbeats 1000000
theorem Of_calls (b : Bool) (m : Nat) (A : Option Addr) (c : Nat) (w : World) :
    Calls Try.prog 84 #[.bool b, .slice A (limbs m).length c] w fun e w' => e = .returned (iv (ofS b m) A c) ∧ Below w.heap.size w w' := by
  unfold iv
  rw [lm_ofS, sgn_ofS]
  generalize (limbs m).length = n
  cases b with
  | false =>
    go_enter Try.func84, Try.ntmps84
    go_wp2
    refine bodyPost_ret (results_cell_row rfl _ _ w.heap.size 58 _ (0, 0) _ rfl (blk_new w _) Try.underlying58 rfl (by kernel_rfl)) rfl ?_
    exact ⟨rfl, below_alloc (Below.refl _ _) _⟩
  | true =>
    by_cases hn : 0 < n
    · have hb : decide (0 < n) = true := decide_eq_true hn
      rw [hb]
      have hb2 : decide ((0 : Int) < (n : Int)) = true := decide_eq_true (by omega)
      go_enter Try.func84, Try.ntmps84
      go_wp2
      refine bodyPost_ret (results_cell_row rfl _ _ w.heap.size 58 _ (0, 0) _ rfl (blk_new w _) Try.underlying58 rfl (by kernel_rfl)) rfl ?_
      exact ⟨rfl, below_alloc (Below.refl _ _) _⟩
    · have hb : decide (0 < n) = false := decide_eq_false hn
      rw [hb]
      have hb2 : decide ((0 : Int) < (n : Int)) = false := decide_eq_false (by omega)
      go_enter Try.func84, Try.ntmps84
      go_wp2
      refine bodyPost_ret (results_cell_row rfl _ _ w.heap.size 58 _ (0, 0) _ rfl (blk_new w _) Try.underlying58 rfl (by kernel_rfl)) rfl ?_
      exact ⟨rfl, below_alloc (Below.refl _ _) _⟩
theorem st_cells {w : World} {g : Nat} {t : TypeId} {x y : Value} (h : w.heap[g]? = some (.cells #[x, y] t (0, 0))) :
    w.cell? ⟨g, 0, none⟩ = some x ∧ w.cell? ⟨g, 1, none⟩ = some y ∧ w.frozen? ⟨g, 0, none⟩ = false ∧ w.frozen? ⟨g, 1, none⟩ = false := ⟨blk_cell h 0, blk_cell h 1, blk_frozen h 0, blk_frozen h 1⟩
theorem st_eq {w : World} {g : Nat} {t : TypeId} {x y u v : Value} (h : w.heap[g]? = some (.cells #[x, y] t (0, 0))) : (w.setCell ⟨g, 0, none⟩ u).setCell ⟨g, 1, none⟩ v = w.setRow g #[u, v] := by
  have h1 := setCell_eq_setRow w g 0 #[x, y] t (0, 0) u h
  rw [h1]
  have h2 := setRow_heap w g #[x, y] (#[x, y].setIfInBounds 0 u) t (0, 0) h
  rw [setCell_eq_setRow _ g 1 _ t (0, 0) v h2, setRow_setRow]
  rfl
theorem int_info {b : Bool} {A : Option Addr} {n c : Nat} : (Try.prog.info? 58).map (·.size) = some (#[Value.bool b, Value.slice A n c] : Array Value).size := by kernel_rfl
theorem From_calls (n : Int) (w : World) (h0 : -9223372036854775808 ≤ n) (h1 : n < 9223372036854775808) : Calls Try.prog 49 #[.int .i64 n] w (RetI n w) := by
  by_cases hn : n < 0
  · have hb : decide (n < 0) = true := decide_eq_true hn
    have ew : IntKind.u64.wrap (-IntKind.u64.wrap n) = (n.natAbs : Int) := by rw [u64_wrap, u64_wrap]; omega
    have eo : Aside0 (ofS true n.natAbs = n) := ⟨by unfold ofS; simp; omega⟩
    have hm : n.natAbs < 18446744073709551616 := by omega
    have WO := Aside0.mk (fun w => word_calls n.natAbs w hm)
    clear h0 h1 hm
    go_enter Try.func49, Try.ntmps49
    go_wp2_with fail
    have BK := Aside0.mk (blk_new w (.cells #[.bool false, .slice none 0 0] 58))
    have BE := Aside0.mk (below_alloc (Below.refl w.heap.size w) (.cells #[.bool false, .slice none 0 0] 58))
    generalize w.alloc (.cells #[.bool false, .slice none 0 0] 58) = w0 at *
    
    refine (WO.out w0).mono ?_
    rintro e w1 ⟨A, c, rfl, hr1, hB1⟩
    have hr1 := Aside0.mk hr1
    have BK := Aside0.mk (blk_below BK.out hB1)
    have BE := Aside0.mk (BE.out.trans (hB1.mono BE.out.size))
    clear hB1
    go_wp2_with fail
    refine (Of_calls true n.natAbs A c w1).mono ?_
    rintro e w2 ⟨rfl, hB2⟩
    have hr2 := Aside0.mk (hr1.out.below hB2)
    have BK := Aside0.mk (blk_below BK.out hB2)
    have BE := Aside0.mk (BE.out.trans (hB2.mono BE.out.size))
    clear hB2 hr1
    rw [eo.out]
    unfold iv
    generalize hsg : sgn n = sg
    obtain ⟨hc0, hc1, hf0, hf1⟩ := st_cells BK.out
    go_wp2_with fail
    rw [st_eq BK.out]
    (try simp only [Exit.inBlock, Exit.then])
    refine bodyPost_ret (v := .agg #[.bool sg, .slice A (lm n).length c]) (results_cell_row rfl _ _ w.heap.size 58 #[.bool sg, .slice A (lm n).length c] (0, 0) _ rfl (row_at BK.out _) Try.underlying58 rfl int_info) rfl ?_
    exact ⟨A, c, by unfold iv; rw [hsg], Rd.setRow hr2.out BK.out (noInts _ _ _ _) _, row_below BE.out (Nat.le_refl _) _⟩
  · have hb : decide (n < 0) = false := decide_eq_false hn
    obtain ⟨m, rfl⟩ : ∃ m : Nat, n = (m : Int) := ⟨n.toNat, by omega⟩
    have ew : IntKind.u64.wrap (m : Int) = (m : Int) := by rw [u64_wrap]; omega
    have eo : Aside0 (ofS false m = (m : Int)) := ⟨by unfold ofS; simp⟩
    have hm : m < 18446744073709551616 := by omega
    have WO := Aside0.mk (fun w => word_calls m w hm)
    clear h0 h1 hm
    go_enter Try.func49, Try.ntmps49
    go_wp2_with fail
    have BK := Aside0.mk (blk_new w (.cells #[.bool false, .slice none 0 0] 58))
    have BE := Aside0.mk (below_alloc (Below.refl w.heap.size w) (.cells #[.bool false, .slice none 0 0] 58))
    generalize w.alloc (.cells #[.bool false, .slice none 0 0] 58) = w0 at *
    refine (WO.out w0).mono ?_
    rintro e w1 ⟨A, c, rfl, hr1, hB1⟩
    have hr1 := Aside0.mk hr1
    have BK := Aside0.mk (blk_below BK.out hB1)
    have BE := Aside0.mk (BE.out.trans (hB1.mono BE.out.size))
    clear hB1
    go_wp2_with fail
    refine (Of_calls false m A c w1).mono ?_
    rintro e w2 ⟨rfl, hB2⟩
    have hr2 := Aside0.mk (hr1.out.below hB2)
    have BK := Aside0.mk (blk_below BK.out hB2)
    have BE := Aside0.mk (BE.out.trans (hB2.mono BE.out.size))
    clear hB2 hr1
    rw [eo.out]
    unfold iv
    generalize hsg : sgn (m : Int) = sg
    obtain ⟨hc0, hc1, hf0, hf1⟩ := st_cells BK.out
    go_wp2_with fail
    rw [st_eq BK.out]
    (try simp only [Exit.inBlock, Exit.then])
    refine bodyPost_ret (v := .agg #[.bool sg, .slice A (lm (m : Int)).length c]) (results_cell_row rfl _ _ w.heap.size 58 #[.bool sg, .slice A (lm (m : Int)).length c] (0, 0) _ rfl (row_at BK.out _) Try.underlying58 rfl int_info) rfl ?_
    exact ⟨A, c, by unfold iv; rw [hsg], Rd.setRow hr2.out BK.out (noInts _ _ _ _) _, row_below BE.out (Nat.le_refl _) _⟩
end
end Go.Proofs.Ythokdnheijnmmaa.Whole
