/- Walks of the sums' table. -/
import Derived.Test.YtaeabemipnbgbaaHMods
set_option linter.unusedVariables false
namespace Go.Proofs.Ytaeabemipnbgbaa.Crc
open Go.RowKit Go.Proofs.YtaeabemipnbgbaaW.PrintWords Go.Proofs.YtaeabemipnbgbaaW.PrintMore Go.Proofs.YtaeabemipnbgbaaW.Aid

/-- One bit's step of a sum. -/
def stp (x : Int) : Int := if (Go.bits .and .u16 x 32768 != 0) = true then Go.bits .xor .u16 (IntKind.u16.wrap (x * 2)) 4129 else IntKind.u16.wrap (x * 2)
def stps : Nat → Int → Int
  | 0, x => x
  | n + 1, x => stp (stps n x)
/-- The table's entry. -/
def tb (j : Nat) : Int := stps 8 ((j : Int) * 256)
def cells (k : Nat) : Array Value := ((List.range 256).map fun j => Value.int .u16 (if j < k then tb j else 0)).toArray
theorem cells_zero : Try.zeroCells151 = cells 0 := by kernel_rfl
theorem cells_at (k j : Nat) (h : j < 256) : (cells k)[j]? = some (.int .u16 (if j < k then tb j else 0)) := by
  simp [cells, h]

theorem cells_put (k : Nat) (h : k < 256) : (cells k).setIfInBounds k (.int .u16 (tb k)) = cells (k + 1) := by
  unfold cells
  rw [List.setIfInBounds_toArray]
  congr 1
  refine List.ext_getElem (by simp) (fun j h1 h2 => ?_)
  simp only [List.length_set, List.length_map, List.length_range] at h1
  rw [List.getElem_set]
  by_cases e : k = j
  · subst e
    simp
  · simp only [e, if_false, List.getElem_map, List.getElem_range]
    congr 1
    by_cases hj : j < k
    · rw [if_pos hj, if_pos (by omega)]
    · rw [if_neg hj, if_neg (by omega)]
theorem stp_t {x : Int} (h : (Go.bits .and .u16 x 32768 != 0) = true) : stp x = Go.bits .xor .u16 (IntKind.u16.wrap (x * 2)) 4129 := by unfold stp; rw [if_pos h]
theorem stp_f {x : Int} (h : (Go.bits .and .u16 x 32768 != 0) = false) : stp x = IntKind.u16.wrap (x * 2) := by unfold stp; rw [h]; rfl

theorem cells_info : (Try.prog.info? 151).map (·.size) = some (cells 256).size := by kernel_rfl
theorem cells_one : (cells 256).all (·.oneCell') = true := by decide +kernel
theorem cells_size (k : Nat) : (cells k).size = 256 := by simp [cells]

theorem row_at {w : World} {g : Nat} {t : TypeId} {old : Array Value} (h : w.heap[g]? = some (.cells old t (0, 0))) (cs : Array Value) : (w.setRow g cs).heap[g]? = some (.cells cs t (0, 0)) := setRow_heap w g old cs t (0, 0) h
theorem row_below {w W : World} {g : Nat} (h : Below w.heap.size w W) (hg : w.heap.size ≤ g) (cs : Array Value) : Below w.heap.size w (W.setRow g cs) := by
  refine ⟨h.os, h.tape, h.output, by simpa [World.setRow] using h.size, fun k hk => ?_⟩
  rw [← h.block k hk]
  simp only [World.setRow]
  rw [Array.getElem?_modify]
  rw [if_neg (by omega)]

set_option maxRecDepth 100000 in
set_option maxHeartbeats 400000 in
theorem row_calls (w : World) : Calls Try.prog 105 #[] w fun e w' => e = .returned (.agg (cells 256)) ∧ Below w.heap.size w w' := by
  go_enter Try.func105, Try.ntmps105
  go_wp2_with fail
  go_loopw [4] (fun v4 wr => ∃ k : Nat, k ≤ 256 ∧ v4 = .int .i64 k ∧ wr.heap[w.heap.size]? = some (.cells (cells k) 151 (0, 0)) ∧ Below w.heap.size w wr) (fun v4 _ => 256 - (intOf v4).toNat)
  case atStart => exact ⟨0, by omega, rfl, by rw [cells_zero]; exact blk_new w _, below_alloc (Below.refl _ _) _⟩
  case round =>
    obtain ⟨k, hk, rfl, hb, hB⟩ := hrel
    have HB := Aside0.mk hb
    have HBB := Aside0.mk hB
    clear hb hB
    by_cases hlt : k < 256
    · go_wp2
      go_loop [2, 10] (fun v2 v10 => ∃ i : Nat, i ≤ 8 ∧ v10 = .int .i64 i ∧ v2 = .int .u16 (stps i ((k : Int) * 256))) (fun _ v10 => 8 - (intOf v10).toNat)
      case atStart => exact ⟨0, by omega, rfl, rfl⟩
      case round =>
        obtain ⟨i, hi, rfl, rfl⟩ := hrel
        by_cases hil : i < 8
        · by_cases hh : (Go.bits .and .u16 (stps i ((k : Int) * 256)) 32768 != 0) = true
          · have e : Aside0 (stps (i + 1) ((k : Int) * 256) = Go.bits .xor .u16 (IntKind.u16.wrap (stps i ((k : Int) * 256) * 2)) 4129) := ⟨stp_t hh⟩
            generalize stps i ((k : Int) * 256) = x at *
            go_wp2
            go_round
            case rel => exact ⟨i + 1, by omega, by go_num, by rw [e.out]⟩
            case measure => simp [intOf]; omega
          · have hf : (Go.bits .and .u16 (stps i ((k : Int) * 256)) 32768 != 0) = false := by simpa using hh
            have e : Aside0 (stps (i + 1) ((k : Int) * 256) = IntKind.u16.wrap (stps i ((k : Int) * 256) * 2)) := ⟨stp_f hf⟩
            clear hh
            generalize stps i ((k : Int) * 256) = x at *
            go_wp2
            go_round
            case rel => exact ⟨i + 1, by omega, by go_num, by rw [e.out]⟩
            case measure => simp [intOf]; omega
        · obtain rfl : i = 8 := by omega
          have e : Aside0 (stps 8 ((k : Int) * 256) = tb k) := ⟨rfl⟩
          rw [e.out]
          have hc : wr.cell? ⟨w.heap.size, k, none⟩ = some (.int .u16 (if k < k then tb k else 0)) := (blk_cell HB.out k).trans (cells_at k k hlt)
          have hf := blk_frozen HB.out k
          go_wp2
          go_roundw
          case rel => exact ⟨k + 1, by omega, by go_num, blk_put HB.out k _ (cells_put k hlt), below_set HBB.out (Nat.le_refl _)⟩
          case measure => simp [intOf]; omega
    · obtain rfl : k = 256 := by omega
      go_wp2_with (first | (refine wpList_load_row rfl 151 (.tmp 0) rfl w.heap.size rfl 151 (cells 256) (0, 0) _ HB.out Try.underlying151 rfl cells_info ?_) | (refine wpList_store_row rfl 151 (.tmp 0) (.tmp 25) rfl w.heap.size (cells 256) rfl rfl 151 (cells 256) HB.out cells_info rfl cells_one ?_))
      refine bodyPost_ret (v := .agg (cells 256)) (results_cell_row (ty := 151) rfl _ _ w.heap.size 151 (cells 256) (0, 0) _ rfl (row_at HB.out _) Try.underlying151 rfl cells_info) rfl ⟨rfl, row_below HBB.out (Nat.le_refl _) _⟩
/-- A byte's step, by the table. -/
def upd (s x : Int) : Int := Go.bits .xor .u16 (IntKind.u16.wrap (s * 256)) (tb (Go.bits .xor .u8 (s / 256) x).toNat)
def crcOf : List Int → Int → Int
  | [], s => s
  | x :: l, s => crcOf l (upd s x)

theorem crc_snoc (l : List Int) (x : Int) : ∀ s, crcOf (l ++ [x]) s = upd (crcOf l s) x := by
  induction l with
  | nil => intro s; rfl
  | cons y l ih => intro s; exact ih (upd s y)
theorem upd_bd (s x : Int) : 0 ≤ upd s x ∧ upd s x ≤ 65535 := bits_u16 _ _ _
theorem crc_bd (l : List Int) : ∀ s, 0 ≤ s → s ≤ 65535 → 0 ≤ crcOf l s ∧ crcOf l s ≤ 65535 := by
  induction l with
  | nil => intro s h0 h1; exact ⟨h0, h1⟩
  | cons y l ih => intro s _ _; exact ih _ (upd_bd s y).1 (upd_bd s y).2
theorem take_rd {l : List Int} {k : Nat} (h : k < l.length) : l.take (k + 1) = l.take k ++ [rd l k] := by
  obtain ⟨hj, e⟩ := rd_at (l := l) (i := (k : Int)) (by omega) (by omega)
  rw [e, List.take_succ_eq_append_getElem h]
  simp

set_option maxRecDepth 100000 in
set_option maxHeartbeats 400000 in
theorem sum_calls (l : List Int) (A : Option Addr) (c : Nat) (w : World) (hr : Kd.C (Kd.int .u8) w A l.length l) (hle : l.length ≤ c) (hd : ∀ x ∈ l, 0 ≤ x ∧ x ≤ 255) :
    Calls Try.prog 97 #[.slice A l.length c, .int .i64 1] w fun e w' => e = .returned (.int .u16 (crcOf l 65535)) ∧ Below w.heap.size w w' := by
  have HR := Aside0.mk hr
  clear hr
  go_enter Try.func97, Try.ntmps97
  go_wp2_with fail
  refine (row_calls _).mono ?_
  rintro e w1 ⟨rfl, hB⟩
  have HB := Aside0.mk hB
  clear hB
  have zs : Try.zeroCells151.size = (cells 256).size := by rw [cells_zero, cells_size, cells_size]
  go_wp2_with (first | (refine wpList_store_row rfl 151 (.tmp 5) (.tmp 10) rfl w1.heap.size (cells 256) rfl rfl 151 Try.zeroCells151 (blk_new w1 _) cells_info zs cells_one ?_; rw [World.setRow_alloc_new]) | fail)
  have hW := Aside0.mk (Kd.C_below HR.out (below_alloc HB.out (.cells (cells 256) 151)))
  have hbk := Aside0.mk (blk_new w1 (.cells (cells 256) 151))
  have hlen : l.length ≤ 9223372036854775807 := HR.out.2.1
  go_loop [6, 13] (fun v6 v13 => ∃ k : Nat, k ≤ l.length ∧ v13 = .int .i64 k ∧ v6 = .int .u16 (crcOf (l.take k) 65535)) (fun _ v13 => l.length - (intOf v13).toNat)
  case atStart => exact ⟨0, by omega, rfl, rfl⟩
  case round =>
    obtain ⟨k, hk, rfl, rfl⟩ := hrel
    by_cases hlt : k < l.length
    · obtain ⟨ad, rfl, hcell⟩ := Kd.at_int hW.out (k : Int) (by omega) (by omega)
      simp only [Int.toNat_natCast] at hcell
      have hs : 0 ≤ crcOf (l.take k) 65535 ∧ crcOf (l.take k) 65535 ≤ 65535 := crc_bd _ _ (by omega) (by omega)
      have hx : 0 ≤ rd l k ∧ rd l k ≤ 255 := hd _ (rd_mem (by omega) (by omega))
      have hn : Aside0 (crcOf (l.take (k + 1)) 65535 = upd (crcOf (l.take k) 65535) (rd l k)) := ⟨by rw [take_rd hlt, crc_snoc]⟩
      generalize crcOf (l.take k) 65535 = s at *
      generalize rd l k = x at *
      obtain ⟨hs0, hs2⟩ := hs
      obtain ⟨hx0, hx2⟩ := hx
      have hi0 := bits_u8 .xor (s / 256) x
      obtain ⟨hi1, hi2⟩ := hi0
      have hi3 : Go.bits .xor .u8 (s / 256) x < 256 := by omega
      have hz : (w1.alloc (.cells (cells 256) 151)).cell? ⟨w1.heap.size, (Go.bits .xor .u8 (s / 256) x).toNat, none⟩ = some (.int .u16 (tb (Go.bits .xor .u8 (s / 256) x).toNat)) := by
        rw [blk_cell hbk.out, cells_at 256 _ (by omega), if_pos (by omega)]
      go_wp2
      go_loop [6, 9] (fun v6 v9 => (v9 = .int .i64 0 ∧ v6 = .int .u16 s) ∨ (v9 = .int .i64 (-1) ∧ v6 = .int .u16 (upd s x))) (fun _ v9 => (intOf v9 + 1).toNat)
      case atStart => exact .inl ⟨rfl, rfl⟩
      case round =>
        rcases hrel with ⟨rfl, rfl⟩ | ⟨rfl, rfl⟩
        · go_wp2
          go_round
          case rel => exact .inr ⟨rfl, rfl⟩
          case measure => simp [intOf]
        · go_wp2
          go_round
          case rel => exact ⟨k + 1, by omega, by go_num, by rw [hn.out]⟩
          case measure => simp [intOf]; omega
    · obtain rfl : k = l.length := by omega
      go_wp2
      go_ret
      exact ⟨rfl, below_alloc HB.out _⟩

set_option maxHeartbeats 400000 in
theorem Sum_calls (l : List Int) (A : Option Addr) (c : Nat) (w : World) (hr : Kd.C (Kd.int .u8) w A l.length l) (hle : l.length ≤ c) (hd : ∀ x ∈ l, 0 ≤ x ∧ x ≤ 255) :
    Calls Try.prog 82 #[.slice A l.length c] w fun e w' => e = .returned (.int .u16 (crcOf l 65535)) ∧ Below w.heap.size w w' := by
  have HR := Aside0.mk hr
  have HD := Aside0.mk hd
  clear hr hd
  go_enter Try.func82, Try.ntmps82
  go_wp2_with fail
  refine (sum_calls l A c _ HR.out hle HD.out).mono ?_
  rintro e w1 ⟨rfl, hB⟩
  have HB := Aside0.mk hB
  clear hB
  go_wp2
  go_ret
  exact ⟨rfl, HB.out⟩
end Go.Proofs.Ytaeabemipnbgbaa.Crc
