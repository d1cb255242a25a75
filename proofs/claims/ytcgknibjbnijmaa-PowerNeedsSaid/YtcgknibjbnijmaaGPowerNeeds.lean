/- The statement of PowerNeeds over numbers and lists alone: what the row asks of the printed function. -/
import Derived.Test.YtcgknibjbnijmaaQPNeedsx5
namespace Go.Proofs.Ytcgknibjbnijmaa.powerNeeds
open Go.RowKit Go.Proofs.Ytcgknibjbnijmaa.QPNeeds Go.Proofs.YtcgknibjbnijmaaW.PrintWords Go.Proofs.YtcgknibjbnijmaaW.PrintLast

def Pure : Prop := ∀ (x0 : List Int), (fun xs => xs.length * 8 ≤ 140737488351232 ∧ ∀ x ∈ xs, (fun n => (Lit.int .i64 n).wf = true) x) x0 → ∃ k, gimballaw26_PowerNeeds.f k x0 = some true
end Go.Proofs.Ytcgknibjbnijmaa.powerNeeds
