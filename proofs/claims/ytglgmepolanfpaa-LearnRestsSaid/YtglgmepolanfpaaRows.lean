/-
  No cell of these rows narrows 'for every input' (looked for: loops, veiled, ifaces, maps, wideKeys, modest, calm, conditions, laid).
  DERIVED. THE GIVEN ROWS OF THIS SEAT. 9 by the template 'for every input the law returns true; each argument reads behind the call as it read before'; 0 by the template 'total and deterministic' (their statements: YtglgmepolanfpaaTotals.lean).
  GIVEN WITH THE SEED: the statements are not yours to turn. If you find one false, say at which input.
  Laid BY PROGRAM, IN A SANDBOX (cutbox-rows.mjs): the forced cells as the released guide's own fill.sh prints them over the translation 5332e33231449ed0… (all of the seat's roots in one cut). By AI agents, Wed Nov 11 2026. No macro, syntax, notation, axiom, sorry.
-/
import Derived.Test.YtglgmepolanfpaaChecked
import GoSem.Claim
import GoSem.ClaimJoined
import GoSem.ClaimMapViews
import Derived.JoinedTies
import Derived.KernelRfl
namespace Go.Proofs.Ytglgmepolanfpaa
/- THE CELL 'sum', in the pinned program and in every row, IS THE sha256 OF THE DUMP (.gsa) THAT YtglgmepolanfpaaProg.lean LOADS. Nothing in Lean hashes anything: it is a label: what it is worth is what the hold of that sum in a sandbox is worth. -/
noncomputable def Try.pinned : Pinned := { name := "ytglgmepolanfpaa", sum := "5332e33231449ed08889e9c421ea2ab8b5e291363494fcaad7bd9ffc4cbaf8b3", checked := Try.checked }
namespace Rows
def none {H : Type} : Left H := { results := [], args := [] }

/-- 'gimballaw12.LowExact': WHATEVER THE INPUT: true; the input reads as it did. -/
def lowExactSpec : ChangeSpec := { name := "lowExact", fn := fun _ => fun
  | [d] => { results := [.lit (.bool true)], args := [d] }
  | _ => none }
def lowExactRow : OpenClaim := { program := "ytglgmepolanfpaa", sum := "5332e33231449ed08889e9c421ea2ab8b5e291363494fcaad7bd9ffc4cbaf8b3", func := "gimbal/gimballaw12.LowExact", spec := "lowExact", inPlace := ["math/bits.Add64", "math/bits.Sub64"], unfollowed := true, recurses := true, named := ["math/bits.divideError", "math/bits.overflowError"], apart := false }
def LowExactSaid : Prop := lowExactRow.holds Try.pinned (OpenSpec.ofChange lowExactSpec)

/-- ITS FALSE NEIGHBOUR: 'it returns false'. Refute it at one input. -/
def lowExactWrong : ChangeSpec := { name := "lowExact", fn := fun _ => fun
  | [d] => { results := [.lit (.bool false)], args := [d] }
  | _ => none }
def LowExactWrongFalsely : Prop := lowExactRow.holds Try.pinned (OpenSpec.ofChange lowExactWrong)

/-- 'gimballaw12.LowBetween': WHATEVER THE INPUT: true; the input reads as it did. -/
def lowBetweenSpec : ChangeSpec := { name := "lowBetween", fn := fun _ => fun
  | [d] => { results := [.lit (.bool true)], args := [d] }
  | _ => none }
def lowBetweenRow : OpenClaim := { program := "ytglgmepolanfpaa", sum := "5332e33231449ed08889e9c421ea2ab8b5e291363494fcaad7bd9ffc4cbaf8b3", func := "gimbal/gimballaw12.LowBetween", spec := "lowBetween", inPlace := ["math/bits.Add64", "math/bits.Sub64"], unfollowed := true, recurses := true, named := ["math/bits.divideError", "math/bits.overflowError"], apart := false }
def LowBetweenSaid : Prop := lowBetweenRow.holds Try.pinned (OpenSpec.ofChange lowBetweenSpec)

/-- ITS FALSE NEIGHBOUR: 'it returns false'. Refute it at one input. -/
def lowBetweenWrong : ChangeSpec := { name := "lowBetween", fn := fun _ => fun
  | [d] => { results := [.lit (.bool false)], args := [d] }
  | _ => none }
def LowBetweenWrongFalsely : Prop := lowBetweenRow.holds Try.pinned (OpenSpec.ofChange lowBetweenWrong)

/-- 'gimballaw12.LowSettles': WHATEVER THE INPUT: true; the input reads as it did. -/
def lowSettlesSpec : ChangeSpec := { name := "lowSettles", fn := fun _ => fun
  | [d] => { results := [.lit (.bool true)], args := [d] }
  | _ => none }
def lowSettlesRow : OpenClaim := { program := "ytglgmepolanfpaa", sum := "5332e33231449ed08889e9c421ea2ab8b5e291363494fcaad7bd9ffc4cbaf8b3", func := "gimbal/gimballaw12.LowSettles", spec := "lowSettles", inPlace := ["math/bits.Add64", "math/bits.Sub64"], unfollowed := true, recurses := true, named := ["math/bits.divideError", "math/bits.overflowError"], apart := false }
def LowSettlesSaid : Prop := lowSettlesRow.holds Try.pinned (OpenSpec.ofChange lowSettlesSpec)

/-- ITS FALSE NEIGHBOUR: 'it returns false'. Refute it at one input. -/
def lowSettlesWrong : ChangeSpec := { name := "lowSettles", fn := fun _ => fun
  | [d] => { results := [.lit (.bool false)], args := [d] }
  | _ => none }
def LowSettlesWrongFalsely : Prop := lowSettlesRow.holds Try.pinned (OpenSpec.ofChange lowSettlesWrong)

/-- 'gimballaw14.ThinExact': WHATEVER THE INPUT: true; the input reads as it did. -/
def thinExactSpec : ChangeSpec := { name := "thinExact", fn := fun _ => fun
  | [d] => { results := [.lit (.bool true)], args := [d] }
  | _ => none }
def thinExactRow : OpenClaim := { program := "ytglgmepolanfpaa", sum := "5332e33231449ed08889e9c421ea2ab8b5e291363494fcaad7bd9ffc4cbaf8b3", func := "gimbal/gimballaw14.ThinExact", spec := "thinExact", inPlace := ["math/bits.Add64", "math/bits.Sub64"], unfollowed := true, recurses := true, named := ["math/bits.divideError", "math/bits.overflowError"], apart := false }
def ThinExactSaid : Prop := thinExactRow.holds Try.pinned (OpenSpec.ofChange thinExactSpec)

/-- ITS FALSE NEIGHBOUR: 'it returns false'. Refute it at one input. -/
def thinExactWrong : ChangeSpec := { name := "thinExact", fn := fun _ => fun
  | [d] => { results := [.lit (.bool false)], args := [d] }
  | _ => none }
def ThinExactWrongFalsely : Prop := thinExactRow.holds Try.pinned (OpenSpec.ofChange thinExactWrong)

/-- 'gimballaw14.ThinMeans': WHATEVER THE INPUT: true; the input reads as it did. -/
def thinMeansSpec : ChangeSpec := { name := "thinMeans", fn := fun _ => fun
  | [d] => { results := [.lit (.bool true)], args := [d] }
  | _ => none }
def thinMeansRow : OpenClaim := { program := "ytglgmepolanfpaa", sum := "5332e33231449ed08889e9c421ea2ab8b5e291363494fcaad7bd9ffc4cbaf8b3", func := "gimbal/gimballaw14.ThinMeans", spec := "thinMeans", inPlace := ["math/bits.Add64", "math/bits.Sub64"], unfollowed := true, recurses := true, named := ["math/bits.divideError", "math/bits.overflowError"], apart := false }
def ThinMeansSaid : Prop := thinMeansRow.holds Try.pinned (OpenSpec.ofChange thinMeansSpec)

/-- ITS FALSE NEIGHBOUR: 'it returns false'. Refute it at one input. -/
def thinMeansWrong : ChangeSpec := { name := "thinMeans", fn := fun _ => fun
  | [d] => { results := [.lit (.bool false)], args := [d] }
  | _ => none }
def ThinMeansWrongFalsely : Prop := thinMeansRow.holds Try.pinned (OpenSpec.ofChange thinMeansWrong)

/-- 'gimballaw14.ThinOnes': WHATEVER THE INPUT: true; the input reads as it did. -/
def thinOnesSpec : ChangeSpec := { name := "thinOnes", fn := fun _ => fun
  | [d] => { results := [.lit (.bool true)], args := [d] }
  | _ => none }
def thinOnesRow : OpenClaim := { program := "ytglgmepolanfpaa", sum := "5332e33231449ed08889e9c421ea2ab8b5e291363494fcaad7bd9ffc4cbaf8b3", func := "gimbal/gimballaw14.ThinOnes", spec := "thinOnes", inPlace := ["math/bits.Add64", "math/bits.Sub64"], unfollowed := true, recurses := true, named := ["math/bits.divideError", "math/bits.overflowError"], apart := false }
def ThinOnesSaid : Prop := thinOnesRow.holds Try.pinned (OpenSpec.ofChange thinOnesSpec)

/-- ITS FALSE NEIGHBOUR: 'it returns false'. Refute it at one input. -/
def thinOnesWrong : ChangeSpec := { name := "thinOnes", fn := fun _ => fun
  | [d] => { results := [.lit (.bool false)], args := [d] }
  | _ => none }
def ThinOnesWrongFalsely : Prop := thinOnesRow.holds Try.pinned (OpenSpec.ofChange thinOnesWrong)

/-- 'gimballaw11.LearnRests': WHATEVER THE INPUT: true; the input reads as it did. -/
def learnRestsSpec : ChangeSpec := { name := "learnRests", fn := fun _ => fun
  | [d] => { results := [.lit (.bool true)], args := [d] }
  | _ => none }
def learnRestsRow : OpenClaim := { program := "ytglgmepolanfpaa", sum := "5332e33231449ed08889e9c421ea2ab8b5e291363494fcaad7bd9ffc4cbaf8b3", func := "gimbal/gimballaw11.LearnRests", spec := "learnRests", inPlace := ["math/bits.Add64", "math/bits.Sub64"], unfollowed := true, recurses := true, named := ["math/bits.divideError", "math/bits.overflowError"], apart := false }
def LearnRestsSaid : Prop := learnRestsRow.holds Try.pinned (OpenSpec.ofChange learnRestsSpec)

/-- ITS FALSE NEIGHBOUR: 'it returns false'. Refute it at one input. -/
def learnRestsWrong : ChangeSpec := { name := "learnRests", fn := fun _ => fun
  | [d] => { results := [.lit (.bool false)], args := [d] }
  | _ => none }
def LearnRestsWrongFalsely : Prop := learnRestsRow.holds Try.pinned (OpenSpec.ofChange learnRestsWrong)

/-- 'gimballaw11.LearnSame': WHATEVER THE INPUT: true; the input reads as it did. -/
def learnSameSpec : ChangeSpec := { name := "learnSame", fn := fun _ => fun
  | [d] => { results := [.lit (.bool true)], args := [d] }
  | _ => none }
def learnSameRow : OpenClaim := { program := "ytglgmepolanfpaa", sum := "5332e33231449ed08889e9c421ea2ab8b5e291363494fcaad7bd9ffc4cbaf8b3", func := "gimbal/gimballaw11.LearnSame", spec := "learnSame", inPlace := ["math/bits.Add64", "math/bits.Sub64"], unfollowed := true, recurses := true, named := ["math/bits.divideError", "math/bits.overflowError"], apart := false }
def LearnSameSaid : Prop := learnSameRow.holds Try.pinned (OpenSpec.ofChange learnSameSpec)

/-- ITS FALSE NEIGHBOUR: 'it returns false'. Refute it at one input. -/
def learnSameWrong : ChangeSpec := { name := "learnSame", fn := fun _ => fun
  | [d] => { results := [.lit (.bool false)], args := [d] }
  | _ => none }
def LearnSameWrongFalsely : Prop := learnSameRow.holds Try.pinned (OpenSpec.ofChange learnSameWrong)

/-- 'gimballaw11.LearnExact': WHATEVER THE INPUT: true; the input reads as it did. -/
def learnExactSpec : ChangeSpec := { name := "learnExact", fn := fun _ => fun
  | [d] => { results := [.lit (.bool true)], args := [d] }
  | _ => none }
def learnExactRow : OpenClaim := { program := "ytglgmepolanfpaa", sum := "5332e33231449ed08889e9c421ea2ab8b5e291363494fcaad7bd9ffc4cbaf8b3", func := "gimbal/gimballaw11.LearnExact", spec := "learnExact", inPlace := ["math/bits.Add64", "math/bits.Sub64"], unfollowed := true, recurses := true, named := ["math/bits.divideError", "math/bits.overflowError"], apart := false }
def LearnExactSaid : Prop := learnExactRow.holds Try.pinned (OpenSpec.ofChange learnExactSpec)

/-- ITS FALSE NEIGHBOUR: 'it returns false'. Refute it at one input. -/
def learnExactWrong : ChangeSpec := { name := "learnExact", fn := fun _ => fun
  | [d] => { results := [.lit (.bool false)], args := [d] }
  | _ => none }
def LearnExactWrongFalsely : Prop := learnExactRow.holds Try.pinned (OpenSpec.ofChange learnExactWrong)

/- THE SECOND FORM. 'bulk': how many values and letters a reading holds, each counted each time it is reached (what is shared counts as often as it is met; a slice's spare places count too). A statement '..UptoSaid' is the law's where the arguments, and the package variables that the reading takes, are together of bulk at most 1048576: NARROWER than '..Said'. Prove '..Said' where nothing that the law and all that it calls make is longer than what came in: it says more and counts as full. Else prove '..UptoSaid'. A law counts once. -/
mutual
def uptoBulk {H : Type} : DataW H → Nat
  | .lit (.string bytes) => bytes.length + 1
  | .lit _ => 1
  | .nil => 1
  | .ptr d => uptoBulk d + 1
  | .slice elems spare => uptoBulkAll elems + uptoBulkAll spare + 1
  | .agg parts => uptoBulkAll parts + 1
  | .iface _ d => uptoBulk d + 1
  | .map entries => uptoBulkEntries entries + 1
  | .held _ => 1
def uptoBulkAll {H : Type} : List (DataW H) → Nat
  | [] => 0
  | d :: r => uptoBulk d + uptoBulkAll r
def uptoBulkEntries {H : Type} : List (Lit × DataW H) → Nat
  | [] => 0
  | x :: r => uptoBulkEntry x + uptoBulkEntries r
def uptoBulkEntry {H : Type} : Lit × DataW H → Nat
  | (.string bytes, d) => bytes.length + uptoBulk d + 1
  | (_, d) => uptoBulk d + 1
 end
def uptoSmall : (H : Type) → List (DataW H) → Bool := fun _ ds => decide (uptoBulkAll ds ≤ 1048576)
def OpenSpec.upto (s : _root_.Go.ChangeSpec) : _root_.Go.OpenSpec := { _root_.Go.OpenSpec.ofChange s with cond := some uptoSmall }

/-- 'gimballaw12.LowExact', WHERE WHAT IT READS IS OF BULK AT MOST 1048576: true; the input reads as it did. -/
def lowExactUptoRow : OpenClaim := { program := "ytglgmepolanfpaa", sum := "5332e33231449ed08889e9c421ea2ab8b5e291363494fcaad7bd9ffc4cbaf8b3", func := "gimbal/gimballaw12.LowExact", spec := "lowExact", inPlace := ["math/bits.Add64", "math/bits.Sub64"], unfollowed := true, recurses := true, named := ["math/bits.divideError", "math/bits.overflowError"], apart := false, narrowed := true }
def LowExactUptoSaid : Prop := lowExactUptoRow.holds Try.pinned (OpenSpec.upto lowExactSpec)

/-- 'gimballaw12.LowBetween', WHERE WHAT IT READS IS OF BULK AT MOST 1048576: true; the input reads as it did. -/
def lowBetweenUptoRow : OpenClaim := { program := "ytglgmepolanfpaa", sum := "5332e33231449ed08889e9c421ea2ab8b5e291363494fcaad7bd9ffc4cbaf8b3", func := "gimbal/gimballaw12.LowBetween", spec := "lowBetween", inPlace := ["math/bits.Add64", "math/bits.Sub64"], unfollowed := true, recurses := true, named := ["math/bits.divideError", "math/bits.overflowError"], apart := false, narrowed := true }
def LowBetweenUptoSaid : Prop := lowBetweenUptoRow.holds Try.pinned (OpenSpec.upto lowBetweenSpec)

/-- 'gimballaw12.LowSettles', WHERE WHAT IT READS IS OF BULK AT MOST 1048576: true; the input reads as it did. -/
def lowSettlesUptoRow : OpenClaim := { program := "ytglgmepolanfpaa", sum := "5332e33231449ed08889e9c421ea2ab8b5e291363494fcaad7bd9ffc4cbaf8b3", func := "gimbal/gimballaw12.LowSettles", spec := "lowSettles", inPlace := ["math/bits.Add64", "math/bits.Sub64"], unfollowed := true, recurses := true, named := ["math/bits.divideError", "math/bits.overflowError"], apart := false, narrowed := true }
def LowSettlesUptoSaid : Prop := lowSettlesUptoRow.holds Try.pinned (OpenSpec.upto lowSettlesSpec)

/-- 'gimballaw14.ThinExact', WHERE WHAT IT READS IS OF BULK AT MOST 1048576: true; the input reads as it did. -/
def thinExactUptoRow : OpenClaim := { program := "ytglgmepolanfpaa", sum := "5332e33231449ed08889e9c421ea2ab8b5e291363494fcaad7bd9ffc4cbaf8b3", func := "gimbal/gimballaw14.ThinExact", spec := "thinExact", inPlace := ["math/bits.Add64", "math/bits.Sub64"], unfollowed := true, recurses := true, named := ["math/bits.divideError", "math/bits.overflowError"], apart := false, narrowed := true }
def ThinExactUptoSaid : Prop := thinExactUptoRow.holds Try.pinned (OpenSpec.upto thinExactSpec)

/-- 'gimballaw14.ThinMeans', WHERE WHAT IT READS IS OF BULK AT MOST 1048576: true; the input reads as it did. -/
def thinMeansUptoRow : OpenClaim := { program := "ytglgmepolanfpaa", sum := "5332e33231449ed08889e9c421ea2ab8b5e291363494fcaad7bd9ffc4cbaf8b3", func := "gimbal/gimballaw14.ThinMeans", spec := "thinMeans", inPlace := ["math/bits.Add64", "math/bits.Sub64"], unfollowed := true, recurses := true, named := ["math/bits.divideError", "math/bits.overflowError"], apart := false, narrowed := true }
def ThinMeansUptoSaid : Prop := thinMeansUptoRow.holds Try.pinned (OpenSpec.upto thinMeansSpec)

/-- 'gimballaw14.ThinOnes', WHERE WHAT IT READS IS OF BULK AT MOST 1048576: true; the input reads as it did. -/
def thinOnesUptoRow : OpenClaim := { program := "ytglgmepolanfpaa", sum := "5332e33231449ed08889e9c421ea2ab8b5e291363494fcaad7bd9ffc4cbaf8b3", func := "gimbal/gimballaw14.ThinOnes", spec := "thinOnes", inPlace := ["math/bits.Add64", "math/bits.Sub64"], unfollowed := true, recurses := true, named := ["math/bits.divideError", "math/bits.overflowError"], apart := false, narrowed := true }
def ThinOnesUptoSaid : Prop := thinOnesUptoRow.holds Try.pinned (OpenSpec.upto thinOnesSpec)

/-- 'gimballaw11.LearnRests', WHERE WHAT IT READS IS OF BULK AT MOST 1048576: true; the input reads as it did. -/
def learnRestsUptoRow : OpenClaim := { program := "ytglgmepolanfpaa", sum := "5332e33231449ed08889e9c421ea2ab8b5e291363494fcaad7bd9ffc4cbaf8b3", func := "gimbal/gimballaw11.LearnRests", spec := "learnRests", inPlace := ["math/bits.Add64", "math/bits.Sub64"], unfollowed := true, recurses := true, named := ["math/bits.divideError", "math/bits.overflowError"], apart := false, narrowed := true }
def LearnRestsUptoSaid : Prop := learnRestsUptoRow.holds Try.pinned (OpenSpec.upto learnRestsSpec)

/-- 'gimballaw11.LearnSame', WHERE WHAT IT READS IS OF BULK AT MOST 1048576: true; the input reads as it did. -/
def learnSameUptoRow : OpenClaim := { program := "ytglgmepolanfpaa", sum := "5332e33231449ed08889e9c421ea2ab8b5e291363494fcaad7bd9ffc4cbaf8b3", func := "gimbal/gimballaw11.LearnSame", spec := "learnSame", inPlace := ["math/bits.Add64", "math/bits.Sub64"], unfollowed := true, recurses := true, named := ["math/bits.divideError", "math/bits.overflowError"], apart := false, narrowed := true }
def LearnSameUptoSaid : Prop := learnSameUptoRow.holds Try.pinned (OpenSpec.upto learnSameSpec)

/-- 'gimballaw11.LearnExact', WHERE WHAT IT READS IS OF BULK AT MOST 1048576: true; the input reads as it did. -/
def learnExactUptoRow : OpenClaim := { program := "ytglgmepolanfpaa", sum := "5332e33231449ed08889e9c421ea2ab8b5e291363494fcaad7bd9ffc4cbaf8b3", func := "gimbal/gimballaw11.LearnExact", spec := "learnExact", inPlace := ["math/bits.Add64", "math/bits.Sub64"], unfollowed := true, recurses := true, named := ["math/bits.divideError", "math/bits.overflowError"], apart := false, narrowed := true }
def LearnExactUptoSaid : Prop := learnExactUptoRow.holds Try.pinned (OpenSpec.upto learnExactSpec)

end Rows
end Go.Proofs.Ytglgmepolanfpaa
