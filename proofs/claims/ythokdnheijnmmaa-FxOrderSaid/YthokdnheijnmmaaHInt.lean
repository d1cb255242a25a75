/- Walks of package whole's functions: Of, From, One, Zero, Neg, Mul, Left. -/
import Derived.Test.YthokdnheijnmmaaHMul
set_option linter.unusedVariables false
namespace Go.Proofs.Ythokdnheijnmmaa.Whole
open Go.RowKit Go.Proofs.YthokdnheijnmmaaW.PrintWords Go.Proofs.YthokdnheijnmmaaW.PrintLast Go.Proofs.YthokdnheijnmmaaW.PrintMore Go.Proofs.YthokdnheijnmmaaW.Aid Go.Proofs.YthokdnheijnmmaaW.Big Go.Proofs.Ythokdnheijnmmaa.BitsWalk Go.Proofs.Ythokdnheijnmmaa.Limbs
/-- A number of any size, in memory. -/
def iv (x : Int) (A : Option Addr) (c : Nat) : Value := .agg #[.bool (sgn x), .slice A (lm x).length c]
/-- What a function of numbers answers. -/
def RetI (x : Int) (w : World) (e : Ending) (w' : World) : Prop := ∃ A c, e = .returned (iv x A c) ∧ Rd w' (lm x) A c ∧ Below w.heap.size w w'
/-- A magnitude with a sign. -/
def ofS (b : Bool) (m : Nat) : Int := if b then -(m : Int) else m
theorem lm_ofS (b : Bool) (m : Nat) : lm (ofS b m) = limbs m := by
  unfold lm ofS
  cases b <;> simp
theorem sgn_ofS (b : Bool) (m : Nat) : sgn (ofS b m) = (b && decide (0 < (limbs m).length)) := by
  have h : decide (0 < (limbs m).length) = decide (m ≠ 0) := by
    apply decide_eq_decide.2
    rw [List.length_pos_iff, ne_eq, limbs_ne]
  rw [h]
  unfold sgn ofS
  cases b
  · simp
  · by_cases h0 : m = 0
    · subst h0; simp
    · simp [h0]; omega
theorem blk_below {w w1 : World} {g : Nat} {o : Obj} (h : w.heap[g]? = some o) (hb : Below w.heap.size w w1) : w1.heap[g]? = some o := by
  rw [hb.block g (Array.getElem?_eq_some_iff.1 h).1]; exact h
theorem row_at {w : World} {g : Nat} {t : TypeId} {old : Array Value} (h : w.heap[g]? = some (.cells old t (0, 0))) (cs : Array Value) : (w.setRow g cs).heap[g]? = some (.cells cs t (0, 0)) := setRow_heap w g old cs t (0, 0) h
theorem row_below {w W : World} {g : Nat} (h : Below w.heap.size w W) (hg : w.heap.size ≤ g) (cs : Array Value) : Below w.heap.size w (W.setRow g cs) := by
  refine ⟨h.os, h.tape, h.output, by simpa [World.setRow] using h.size, fun k hk => ?_⟩
  rw [← h.block k hk]
  simp only [World.setRow]
  rw [Array.getElem?_modify]
  rw [if_neg (by omega)]
/-- A number's limbs do not lie in a struct's block. -/
theorem Rd.setRow {w : World} {l : List Int} {A : Option Addr} {c g : Nat} {old : Array Value} {t : TypeId} (h : Rd w l A c) (hg : w.heap[g]? = some (.cells old t (0, 0))) (ho : ∀ (j : Nat) (x : Int), old[j]? ≠ some (.int .u64 x)) (cs : Array Value) : Rd (w.setRow g cs) l A c := by
  refine ⟨h.1, h.2.1, h.2.2.1, fun hpos => ?_⟩
  obtain ⟨ad, hA, hc⟩ := h.2.2.2 hpos
  refine ⟨ad, hA, fun j p hj => ?_⟩
  obtain ⟨cs1, h1, h2, h3⟩ := hc j p hj
  refine ⟨cs1, h1, h2, fun i u hu => ?_⟩
  have h4 := h3 i u hu
  have hu' : u = .int .u64 p := by
    have h5 : cs1 = [.int .u64 p] := h2
    subst h5
    cases i with
    | zero => simpa using hu.symm
    | succ i => simp at hu
  rw [cell_setRow_other _ _ _ _ ?_]
  · exact h4
  · intro e
    rw [hu'] at h4
    unfold World.cell? at h4
    rw [e, hg] at h4
    simp only at h4
    split at h4
    · cases h4
    · exact ho _ _ h4
theorem noInts (b : Bool) (A : Option Addr) (n c : Nat) : ∀ (j : Nat) (x : Int), (#[Value.bool b, Value.slice A n c] : Array Value)[j]? ≠ some (.int .u64 x) := by
  intro j x h
  match j with
  | 0 => simp at h
  | 1 => simp at h
  | j + 2 => simp at h
section
set_option maxRecDepth 100000
set_option maxHeartbeats 1000000
theorem Of_calls (b : Bool) (m : Nat) (A : Option Addr) (c : Nat) (w : World) :
    Calls Try.prog 84 #[.bool b, .slice A (limbs m).length c] w fun e w' => e = .returned (iv (ofS b m) A c) ∧ Below w.heap.size w w' := by
  unfold iv
  rw [lm_ofS, sgn_ofS]
  generalize (limbs m).length = n
  cases b with
  | false =>
    go_enter Try.func84, Try.ntmps84
    go_wp2
    refine bodyPost_ret (results_cell_row rfl _ _ w.heap.size 58 _ (0, 0) _ rfl (blk_new w _) Try.underlying58 rfl (by kernel_rfl)) rfl ?_
    exact ⟨rfl, below_alloc (Below.refl _ _) _⟩
  | true =>
    by_cases hn : 0 < n
    · have hb : decide (0 < n) = true := decide_eq_true hn
      rw [hb]
      have hb2 : decide ((0 : Int) < (n : Int)) = true := decide_eq_true (by omega)
      go_enter Try.func84, Try.ntmps84
      go_wp2
      refine bodyPost_ret (results_cell_row rfl _ _ w.heap.size 58 _ (0, 0) _ rfl (blk_new w _) Try.underlying58 rfl (by kernel_rfl)) rfl ?_
      exact ⟨rfl, below_alloc (Below.refl _ _) _⟩
    · have hb : decide (0 < n) = false := decide_eq_false hn
      rw [hb]
      have hb2 : decide ((0 : Int) < (n : Int)) = false := decide_eq_false (by omega)
      go_enter Try.func84, Try.ntmps84
      go_wp2
      refine bodyPost_ret (results_cell_row rfl _ _ w.heap.size 58 _ (0, 0) _ rfl (blk_new w _) Try.underlying58 rfl (by kernel_rfl)) rfl ?_
      exact ⟨rfl, below_alloc (Below.refl _ _) _⟩
theorem st_cells {w : World} {g : Nat} {t : TypeId} {x y : Value} (h : w.heap[g]? = some (.cells #[x, y] t (0, 0))) :
    w.cell? ⟨g, 0, none⟩ = some x ∧ w.cell? ⟨g, 1, none⟩ = some y ∧ w.frozen? ⟨g, 0, none⟩ = false ∧ w.frozen? ⟨g, 1, none⟩ = false := ⟨blk_cell h 0, blk_cell h 1, blk_frozen h 0, blk_frozen h 1⟩
theorem st_eq {w : World} {g : Nat} {t : TypeId} {x y u v : Value} (h : w.heap[g]? = some (.cells #[x, y] t (0, 0))) : (w.setCell ⟨g, 0, none⟩ u).setCell ⟨g, 1, none⟩ v = w.setRow g #[u, v] := by
  have h1 := setCell_eq_setRow w g 0 #[x, y] t (0, 0) u h
  rw [h1]
  have h2 := setRow_heap w g #[x, y] (#[x, y].setIfInBounds 0 u) t (0, 0) h
  rw [setCell_eq_setRow _ g 1 _ t (0, 0) v h2, setRow_setRow]
  rfl
theorem int_info {b : Bool} {A : Option Addr} {n c : Nat} : (Try.prog.info? 58).map (·.size) = some (#[Value.bool b, Value.slice A n c] : Array Value).size := by kernel_rfl
theorem From_calls (n : Int) (w : World) (h0 : -9223372036854775808 ≤ n) (h1 : n < 9223372036854775808) : Calls Try.prog 49 #[.int .i64 n] w (RetI n w) := by
  by_cases hn : n < 0
  · have hb : decide (n < 0) = true := decide_eq_true hn
    have ew : IntKind.u64.wrap (-IntKind.u64.wrap n) = (n.natAbs : Int) := by rw [u64_wrap, u64_wrap]; omega
    have eo : Aside0 (ofS true n.natAbs = n) := ⟨by unfold ofS; simp; omega⟩
    have hm : n.natAbs < 18446744073709551616 := by omega
    have WO := Aside0.mk (fun w => word_calls n.natAbs w hm)
    clear h0 h1 hm
    go_enter Try.func49, Try.ntmps49
    go_wp2_with fail
    have BK := Aside0.mk (blk_new w (.cells #[.bool false, .slice none 0 0] 58))
    have BE := Aside0.mk (below_alloc (Below.refl w.heap.size w) (.cells #[.bool false, .slice none 0 0] 58))
    generalize w.alloc (.cells #[.bool false, .slice none 0 0] 58) = w0 at *
    
    refine (WO.out w0).mono ?_
    rintro e w1 ⟨A, c, rfl, hr1, hB1⟩
    have hr1 := Aside0.mk hr1
    have BK := Aside0.mk (blk_below BK.out hB1)
    have BE := Aside0.mk (BE.out.trans (hB1.mono BE.out.size))
    clear hB1
    go_wp2_with fail
    refine (Of_calls true n.natAbs A c w1).mono ?_
    rintro e w2 ⟨rfl, hB2⟩
    have hr2 := Aside0.mk (hr1.out.below hB2)
    have BK := Aside0.mk (blk_below BK.out hB2)
    have BE := Aside0.mk (BE.out.trans (hB2.mono BE.out.size))
    clear hB2 hr1
    rw [eo.out]
    unfold iv
    generalize hsg : sgn n = sg
    obtain ⟨hc0, hc1, hf0, hf1⟩ := st_cells BK.out
    go_wp2_with fail
    rw [st_eq BK.out]
    (try simp only [Exit.inBlock, Exit.then])
    refine bodyPost_ret (v := .agg #[.bool sg, .slice A (lm n).length c]) (results_cell_row rfl _ _ w.heap.size 58 #[.bool sg, .slice A (lm n).length c] (0, 0) _ rfl (row_at BK.out _) Try.underlying58 rfl int_info) rfl ?_
    exact ⟨A, c, by unfold iv; rw [hsg], Rd.setRow hr2.out BK.out (noInts _ _ _ _) _, row_below BE.out (Nat.le_refl _) _⟩
  · have hb : decide (n < 0) = false := decide_eq_false hn
    obtain ⟨m, rfl⟩ : ∃ m : Nat, n = (m : Int) := ⟨n.toNat, by omega⟩
    have ew : IntKind.u64.wrap (m : Int) = (m : Int) := by rw [u64_wrap]; omega
    have eo : Aside0 (ofS false m = (m : Int)) := ⟨by unfold ofS; simp⟩
    have hm : m < 18446744073709551616 := by omega
    have WO := Aside0.mk (fun w => word_calls m w hm)
    clear h0 h1 hm
    go_enter Try.func49, Try.ntmps49
    go_wp2_with fail
    have BK := Aside0.mk (blk_new w (.cells #[.bool false, .slice none 0 0] 58))
    have BE := Aside0.mk (below_alloc (Below.refl w.heap.size w) (.cells #[.bool false, .slice none 0 0] 58))
    generalize w.alloc (.cells #[.bool false, .slice none 0 0] 58) = w0 at *
    refine (WO.out w0).mono ?_
    rintro e w1 ⟨A, c, rfl, hr1, hB1⟩
    have hr1 := Aside0.mk hr1
    have BK := Aside0.mk (blk_below BK.out hB1)
    have BE := Aside0.mk (BE.out.trans (hB1.mono BE.out.size))
    clear hB1
    go_wp2_with fail
    refine (Of_calls false m A c w1).mono ?_
    rintro e w2 ⟨rfl, hB2⟩
    have hr2 := Aside0.mk (hr1.out.below hB2)
    have BK := Aside0.mk (blk_below BK.out hB2)
    have BE := Aside0.mk (BE.out.trans (hB2.mono BE.out.size))
    clear hB2 hr1
    rw [eo.out]
    unfold iv
    generalize hsg : sgn (m : Int) = sg
    obtain ⟨hc0, hc1, hf0, hf1⟩ := st_cells BK.out
    go_wp2_with fail
    rw [st_eq BK.out]
    (try simp only [Exit.inBlock, Exit.then])
    refine bodyPost_ret (v := .agg #[.bool sg, .slice A (lm (m : Int)).length c]) (results_cell_row rfl _ _ w.heap.size 58 #[.bool sg, .slice A (lm (m : Int)).length c] (0, 0) _ rfl (row_at BK.out _) Try.underlying58 rfl int_info) rfl ?_
    exact ⟨A, c, by unfold iv; rw [hsg], Rd.setRow hr2.out BK.out (noInts _ _ _ _) _, row_below BE.out (Nat.le_refl _) _⟩
end
end Go.Proofs.Ythokdnheijnmmaa.Whole
