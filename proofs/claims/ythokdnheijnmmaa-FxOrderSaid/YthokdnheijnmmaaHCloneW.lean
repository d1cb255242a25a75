/- slices.Clone at u64: a new row that reads as what came in. -/
import Derived.Test.YthokdnheijnmmaaHMods
import Derived.Lib.SliceRun
set_option linter.unusedVariables false
namespace Go.Proofs.Ythokdnheijnmmaa.CloneW
open Go.RowKit Go.Proofs.YthokdnheijnmmaaW.PrintWords Go.Proofs.YthokdnheijnmmaaW.PrintLast Go.Proofs.YthokdnheijnmmaaW.PrintMore Go.Proofs.YthokdnheijnmmaaW.Aid

theorem info : (Try.prog.info? 76).map (fun i => (i.zero, i.size, i.bytes)) = some (some (.int .u64 0), 1, 8) := by kernel_rfl
set_option maxRecDepth 10000 in
set_option maxHeartbeats 400000 in
theorem bytes_calls (l : List Int) (A : Option Addr) (c : Nat) (w : World) (hr : Kd.C (Kd.int .u64) w A l.length l) (hle : l.length ≤ c) (hm : l.length * 8 ≤ 140737488355328) :
    Calls Try.prog 107 #[.slice A l.length c] w fun e w' => ∃ v, e = .returned v ∧ Kd.R (Kd.int .u64) 76 w' w.heap.size (fun _ => True) v l ∧ Below w.heap.size w w' := by
  have HR := Aside0.mk hr
  have HM := Aside0.mk hm
  have HL := Aside0.mk hle
  clear hr hm hle
  cases A with
  | none =>
    have hn1 := Lib.run_eql_slice_nil (P := Try.prog) w 56 76 none 0 c 0 0 Try.underlying56
    have e : l = [] := by
      have h := HR.out.2.2
      by_cases hl : 0 < l.length
      · obtain ⟨ad, h1, _⟩ := h hl
        cases h1
      · exact List.length_eq_zero_iff.1 (by omega)
    subst e
    go_enter Try.func107, Try.ntmps107
    go_wp2
    go_ret
    exact ⟨.slice none 0 0, rfl, Kd.R_nil _ _ _ _ _, Below.refl _ _⟩
  | some ad =>
    have hn1 := Lib.run_eql_slice_nil (P := Try.prog) w 56 76 (some ad) l.length c 0 0 Try.underlying56
    go_enter Try.func107, Try.ntmps107
    have h0 : Kd.R (Kd.int .u64) 76 (w.alloc (.cells #[] 76)) w.heap.size (fun _ => True) (.slice (some ⟨w.heap.size, 0, none⟩) 0 0) [] :=
      Kd.R_of_own ⟨rfl, .inr ⟨w.heap.size, 0, #[], rfl, Nat.le_refl _, blk_new _ _, Nat.le_refl _, by decide, rfl, rfl⟩⟩ (fun _ _ => trivial)
    have H0 := Aside0.mk h0
    clear h0
    go_wp2_with (first | ((with_reducible refine gate_builtin (b := .append) (xs := #[.tmp 5, .tmp 6]) rfl ?_); at_builtin; refine Kd.R_append_rows (Kd.int .u64) (w0 := w) w.heap.size rfl (.tmp 5) (.tmp 6) 56 76 (.int .u64 0) 8 rfl Try.underlying56 info rfl (by decide) (by omega) (.slice (some ⟨w.heap.size, 0, none⟩) 0 0) [] l _ _ _ (fun _ => True) (fun _ => False) rfl rfl H0.out (Kd.C_alloc HR.out _) (fun _ _ h => h) (fun _ h => h.elim) (fun _ _ => trivial) (below_alloc (Below.refl _ _) _) (by simp) (by have := HM.out; simp; omega) ?_; intro v1 w1 ho hb hg hat; have HO := Aside0.mk ho; have HB := Aside0.mk hb; clear ho hb hg hat))
    go_ret
    exact ⟨v1, rfl, HO.out, HB.out⟩
end Go.Proofs.Ythokdnheijnmmaa.CloneW
