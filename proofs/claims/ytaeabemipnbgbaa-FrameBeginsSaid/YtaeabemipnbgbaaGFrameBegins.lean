/- The statement of FrameBegins over numbers and lists alone: what the row asks of the printed function. -/
import Derived.Test.YtaeabemipnbgbaaQFrx9
namespace Go.Proofs.Ytaeabemipnbgbaa.frameBegins
open Go.RowKit Go.Proofs.Ytaeabemipnbgbaa.QFr Go.Proofs.YtaeabemipnbgbaaW.PrintWords Go.Proofs.YtaeabemipnbgbaaW.PrintLast
def G54 (x : S54) : Prop := (fun n => (Lit.int .i64 n).wf = true) x.f0 ∧ (fun n => (Lit.int .i64 n).wf = true) x.f1 ∧ (fun xs => xs.length * 1 ≤ 140737488351232 ∧ ∀ x ∈ xs, (fun n => (Lit.int .u8 n).wf = true) x) x.f2
def G56 (x : S56) : Prop := G54 x.f0 ∧ (fun xs => xs.length * 1 ≤ 140737488351232 ∧ ∀ x ∈ xs, (fun n => (Lit.int .u8 n).wf = true) x) x.f1
def Pure : Prop := ∀ (x0 : List (S56)), (fun xs => xs.length * 64 ≤ 140737488351232 ∧ ∀ x ∈ xs, G56 x) x0 → ∃ k, gimballaw23_FrameBegins.f k x0 = some true
end Go.Proofs.Ytaeabemipnbgbaa.frameBegins
