/- The statement of MotionWindows over numbers and lists alone: what the row asks of the printed function. -/
import Derived.Test.YtcgknibjbnijmaaQMotionx8
namespace Go.Proofs.Ytcgknibjbnijmaa.motionWindows
open Go.RowKit Go.Proofs.Ytcgknibjbnijmaa.QMotion Go.Proofs.YtcgknibjbnijmaaW.PrintWords Go.Proofs.YtcgknibjbnijmaaW.PrintLast
def G33 (x : S33) : Prop := (fun _ => True) x.f0 ∧ (fun n => (Lit.int .i64 n).wf = true) x.f1 ∧ (fun n => (Lit.int .i64 n).wf = true) x.f2 ∧ (fun n => (Lit.int .i64 n).wf = true) x.f3 ∧ (fun n => (Lit.int .i64 n).wf = true) x.f4 ∧ (fun _ => True) x.f5
def G36 (x : S36) : Prop := G33 x.f0 ∧ (fun n => (Lit.int .i64 n).wf = true) x.f1 ∧ (fun n => (Lit.int .i64 n).wf = true) x.f2
def Pure : Prop := ∀ (x0 : List (S36)), (fun xs => xs.length * 64 ≤ 140737488351232 ∧ ∀ x ∈ xs, G36 x) x0 → ∃ k, gimballaw21_MotionWindows.f k x0 = some true
end Go.Proofs.Ytcgknibjbnijmaa.motionWindows
