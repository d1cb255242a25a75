/- The row of FxSqrts, out of its law over numbers and the printed walk: for every argument that reads as data the call returns true and leaves the argument as it was. -/
import Derived.Test.YthokdnheijnmmaaRows
import Derived.Test.YthokdnheijnmmaaPureFxSqrts
import Derived.Test.YthokdnheijnmmaaOOpens
import Derived.Test.YthokdnheijnmmaaQFxSx2
import Derived.WalkKit
import Derived.ProofKit
import Derived.OpenShut
import Derived.ShutString
import Derived.ChangeOld
import Derived.Below
import Derived.SizedLaws
import Derived.Carry
namespace Go.Proofs.Ythokdnheijnmmaa.fxSqrts
open Go.ChangeShapes Go.WideShapes Go.ChangeAt Go.RowKit Go.Proofs.YthokdnheijnmmaaW.Opens Go.Proofs.YthokdnheijnmmaaW.PrintWords Go.Proofs.Ythokdnheijnmmaa.QFxS
set_option linter.unusedVariables false
theorem own : ownKnob Try.prog.godebug = none := by kernel_rfl
theorem laidOut : laidOutB Try.prog = true := by kernel_rfl
theorem opens24 : Opens Try.prog 24 k24 G24 :=
  opens_struct (l := [(2, 0), (2, 1), (2, 2), (2, 3), (2, 4), (2, 5)]) Try.underlying24 (by kernel_rfl) rfl (opensF_cons (o := 0) (o' := 1) (opens_int Try.underlying2 (by kernel_rfl)) rfl (opensF_cons (o := 1) (o' := 2) (opens_int Try.underlying2 (by kernel_rfl)) rfl (opensF_cons (o := 2) (o' := 3) (opens_int Try.underlying2 (by kernel_rfl)) rfl (opensF_cons (o := 3) (o' := 4) (opens_int Try.underlying2 (by kernel_rfl)) rfl (opensF_cons (o := 4) (o' := 5) (opens_int Try.underlying2 (by kernel_rfl)) rfl (opensF_one (o := 5) (opens_int Try.underlying2 (by kernel_rfl)))))))) (fun x : S24 => (x.f0, x.f1, x.f2, x.f3, x.f4, x.f5)) (fun p => ⟨p.1, p.2.1, p.2.2.1, p.2.2.2.1, p.2.2.2.2.1, p.2.2.2.2.2⟩) (fun _ => rfl)
set_option maxRecDepth 100000 in
theorem lifted (os : Os) (started : os.Started) (H : Type) (enc : TypeId × Value → H) :
    ReturnsInHanded {} Try.checked os 10 .any (Rows.fxSqrtsSpec.pre6 enc Try.prog Try.f10 Rows.fxSqrtsRow.domain false) (Rows.fxSqrtsSpec.post enc Try.prog Try.f10 false true false false) := by
  refine returnsInHanded_of_change_sized (C := Try.checked) own started (by kernel_rfl) Try.func10
    (ChangeSpec.witness6 (enc := enc) (C := Try.checked) false ⟨#[], #[.slice none 0 0], []⟩ 8 (by kernel_rfl) (by kernel_rfl) (by kernel_rfl) (by kernel_rfl)) ?_
  intro W base args ds gs before hval0 hW hcnd hsz0 _
  have hsz : (DataW.weightsEach Try.prog (Try.f10.params.toList ++ Rows.fxSqrtsSpec.plain.varTypes Try.prog) (ds ++ gs)).all (· ≤ reachBytes) = true := hsz0
  have hval : ∀ (j : Nat) t v, Try.f10.params[j]? = some t → args[j]? = some v → Value.okWide Try.prog W .any base t v := hval0
  have hW' := hW
  obtain ⟨p, q, hA0, hV, rfl, hfz, hnd⟩ := hW
  have hA : DataW.TrodAll enc Try.prog W 0 (fun _ => true) true Try.f10.params.toList args.toList ds p := hA0
  rw [Try.params10] at hA hval hsz
  obtain ⟨v0, vs0, d0, ds0, p0, q0, hargs, rfl, rfl, h0, r0⟩ := trodAll_cons hA
  obtain ⟨rfl, rfl, rfl⟩ := trodAll_nil r0
  obtain rfl : args = #[v0] := by cases args; simp_all
  obtain ⟨rfl, rfl⟩ := trodVars_none hV
  have k0 := h0
  have lt0 : ∀ x ∈ p0, x.block < W.heap.size := by obtain ⟨m, hm⟩ := k0; exact DataW.trod_lt m _ _ _ hm
  have hv0 := hval 0 22 v0 rfl rfl
  obtain ⟨x0, hk0, hg0⟩ := opens_arg (opens_slice (B := 48) Try.underlying22 (by kernel_rfl) (by kernel_rfl) opens24) hsz (j := 0) (t := 22) rfl rfl h0
  obtain ⟨k, hp⟩ := pure x0 hg0
  obtain ⟨a0, len0, cap0, rfl⟩ := okWide_slice Try.underlying22 hv0
  obtain ⟨A1, c1, hcs, hle, hC⟩ := hk0
  have hcs : [Value.slice a0 len0 cap0] = [.slice A1 x0.length c1] := hcs
  simp only [List.cons.injEq, Value.slice.injEq, and_true] at hcs
  obtain ⟨rfl, rfl, rfl⟩ := hcs
  clear hA0 hval0 hsz0 hsz
  refine (gimballaw1_FxSqrts.calls k _ _ x0 true W hC hle hp).mono fun e W' hpost => ?_
  obtain ⟨rfl, bel⟩ := hpost
  exact ⟨_, rfl, _, _, _, [], _, [], hW', trodAll_mk1 (shut_bool Try.underlying4 _), (trodAll_cons_mk (Below.trod laidOut (by kernel_rfl) (of_decide_eq_true (by kernel_rfl)) k0 bel lt0) trodAll_mk0), rfl, bel.frame _, fun h => by cases h⟩
theorem over : Rows.fxSqrtsRow.holds Try.pinned (OpenSpec.ofChange Rows.fxSqrtsSpec) :=
  OpenClaim.holds_of_wide 10 Try.f10 rfl rfl rfl rfl rfl rfl rfl ⟨rfl, rfl, rfl, rfl, rfl⟩ rfl rfl rfl rfl rfl (by kernel_rfl) Try.func10 (by kernel_rfl)
    (of_decide_eq_true (by kernel_rfl)) (by unfold Func.isWrapper; first | (rw [if_pos (by decide +kernel)]; kernel_rfl) | (rw [if_neg (by decide +kernel)]; exact ⟨rfl, rfl⟩))
    (fun os started H enc _ => lifted os started H enc)
theorem proved : Rows.FxSqrtsSaid := over
#print axioms proved
end Go.Proofs.Ythokdnheijnmmaa.fxSqrts
namespace Go.Proofs.Ythokdnheijnmmaa
theorem fxSqrts_holds : Rows.FxSqrtsSaid := fxSqrts.proved
end Go.Proofs.Ythokdnheijnmmaa
