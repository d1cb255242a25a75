/- The statement of FxSqrts over numbers and lists alone: what the row asks of the printed function. -/
import Derived.Test.YthokdnheijnmmaaQFxSx2
namespace Go.Proofs.Ythokdnheijnmmaa.fxSqrts
open Go.RowKit Go.Proofs.Ythokdnheijnmmaa.QFxS Go.Proofs.YthokdnheijnmmaaW.PrintWords Go.Proofs.YthokdnheijnmmaaW.PrintLast
def G24 (x : S24) : Prop := (fun n => (Lit.int .i64 n).wf = true) x.f0 ∧ (fun n => (Lit.int .i64 n).wf = true) x.f1 ∧ (fun n => (Lit.int .i64 n).wf = true) x.f2 ∧ (fun n => (Lit.int .i64 n).wf = true) x.f3 ∧ (fun n => (Lit.int .i64 n).wf = true) x.f4 ∧ (fun n => (Lit.int .i64 n).wf = true) x.f5
def Pure : Prop := ∀ (x0 : List (S24)), (fun xs => xs.length * 48 ≤ 140737488351232 ∧ ∀ x ∈ xs, G24 x) x0 → ∃ k, gimballaw1_FxSqrts.f k x0 = some true
end Go.Proofs.Ythokdnheijnmmaa.fxSqrts
