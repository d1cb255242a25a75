/- slices.Clone at u8: a new row that reads as what came in. -/
import Derived.Test.YtaeabemipnbgbaaHMods
import Derived.Lib.SliceRun
set_option linter.unusedVariables false
namespace Go.Proofs.Ytaeabemipnbgbaa.CloneB
open Go.RowKit Go.Proofs.YtaeabemipnbgbaaW.PrintWords Go.Proofs.YtaeabemipnbgbaaW.PrintLast Go.Proofs.YtaeabemipnbgbaaW.PrintMore Go.Proofs.YtaeabemipnbgbaaW.Aid

theorem info : (Try.prog.info? 5).map (fun i => (i.zero, i.size, i.bytes)) = some (some (.int .u8 0), 1, 1) := by kernel_rfl
set_option maxRecDepth 10000 in
set_option maxHeartbeats 400000 in
theorem bytes_calls (l : List Int) (A : Option Addr) (c : Nat) (w : World) (hr : Kd.C (Kd.int .u8) w A l.length l) (hle : l.length ≤ c) (hm : l.length * 1 ≤ 140737488355328) :
    Calls Try.prog 74 #[.slice A l.length c] w fun e w' => ∃ v, e = .returned v ∧ Kd.R (Kd.int .u8) 5 w' w.heap.size (fun _ => True) v l ∧ Below w.heap.size w w' := by
  have HR := Aside0.mk hr
  have HM := Aside0.mk hm
  have HL := Aside0.mk hle
  clear hr hm hle
  cases A with
  | none =>
    have hn1 := Lib.run_eql_slice_nil (P := Try.prog) w 25 5 none 0 c 0 0 Try.underlying25
    have e : l = [] := by
      have h := HR.out.2.2
      by_cases hl : 0 < l.length
      · obtain ⟨ad, h1, _⟩ := h hl
        cases h1
      · exact List.length_eq_zero_iff.1 (by omega)
    subst e
    go_enter Try.func74, Try.ntmps74
    go_wp2
    go_ret
    exact ⟨.slice none 0 0, rfl, Kd.R_nil _ _ _ _ _, Below.refl _ _⟩
  | some ad =>
    have hn1 := Lib.run_eql_slice_nil (P := Try.prog) w 25 5 (some ad) l.length c 0 0 Try.underlying25
    go_enter Try.func74, Try.ntmps74
    have h0 : Kd.R (Kd.int .u8) 5 (w.alloc (.cells #[] 5)) w.heap.size (fun _ => True) (.slice (some ⟨w.heap.size, 0, none⟩) 0 0) [] :=
      Kd.R_of_own ⟨rfl, .inr ⟨w.heap.size, 0, #[], rfl, Nat.le_refl _, blk_new _ _, Nat.le_refl _, by decide, rfl, rfl⟩⟩ (fun _ _ => trivial)
    have H0 := Aside0.mk h0
    clear h0
    go_wp2_with (first | ((with_reducible refine gate_builtin (b := .append) (xs := #[.tmp 5, .tmp 6]) rfl ?_); at_builtin; refine Kd.R_append_rows (Kd.int .u8) (w0 := w) w.heap.size rfl (.tmp 5) (.tmp 6) 25 5 (.int .u8 0) 1 rfl Try.underlying25 info rfl (by decide) (by omega) (.slice (some ⟨w.heap.size, 0, none⟩) 0 0) [] l _ _ _ (fun _ => True) (fun _ => False) rfl rfl H0.out (Kd.C_alloc HR.out _) (fun _ _ h => h) (fun _ h => h.elim) (fun _ _ => trivial) (below_alloc (Below.refl _ _) _) (by simp) (by have := HM.out; simp; omega) ?_; intro v1 w1 ho hb hg hat; have HO := Aside0.mk ho; have HB := Aside0.mk hb; clear ho hb hg hat))
    go_ret
    exact ⟨v1, rfl, HO.out, HB.out⟩
end Go.Proofs.Ytaeabemipnbgbaa.CloneB
