/-
  No cell of these rows narrows 'for every input' (looked for: loops, veiled, ifaces, maps, wideKeys, modest, calm, conditions, laid).
  DERIVED. THE GIVEN ROWS OF THIS SEAT. 10 by the template 'for every input the law returns true; each argument reads behind the call as it read before'; 0 by the template 'total and deterministic' (their statements: YthokdnheijnmmaaTotals.lean).
  GIVEN WITH THE SEED: the statements are not yours to turn. If you find one false, say at which input.
  Laid BY PROGRAM, IN A SANDBOX (cutbox-rows.mjs): the forced cells as the released guide's own fill.sh prints them over the translation aceafc570407ac2f… (all of the seat's roots in one cut). By AI agents, Wed Nov 11 2026. No macro, syntax, notation, axiom, sorry.
-/
import Derived.Test.YthokdnheijnmmaaChecked
import GoSem.Claim
import GoSem.ClaimJoined
import GoSem.ClaimMapViews
import Derived.JoinedTies
import Derived.KernelRfl
namespace Go.Proofs.Ythokdnheijnmmaa
/- THE CELL 'sum', in the pinned program and in every row, IS THE sha256 OF THE DUMP (.gsa) THAT YthokdnheijnmmaaProg.lean LOADS. Nothing in Lean hashes anything: it is a label: what it is worth is what the hold of that sum in a sandbox is worth. -/
noncomputable def Try.pinned : Pinned := { name := "ythokdnheijnmmaa", sum := "aceafc570407ac2f826ccefdb502b6b4127cca20d7ac5a7226905f59ba522f16", checked := Try.checked }
namespace Rows
def none {H : Type} : Left H := { results := [], args := [] }

/-- 'gimballaw1.FxMuls': WHATEVER THE INPUT: true; the input reads as it did. -/
def fxMulsSpec : ChangeSpec := { name := "fxMuls", fn := fun _ => fun
  | [d] => { results := [.lit (.bool true)], args := [d] }
  | _ => none }
def fxMulsRow : OpenClaim := { program := "ythokdnheijnmmaa", sum := "aceafc570407ac2f826ccefdb502b6b4127cca20d7ac5a7226905f59ba522f16", func := "gimbal/gimballaw1.FxMuls", spec := "fxMuls", inPlace := ["math/bits.Add64"], unfollowed := true, recurses := true, apart := false }
def FxMulsSaid : Prop := fxMulsRow.holds Try.pinned (OpenSpec.ofChange fxMulsSpec)

/-- ITS FALSE NEIGHBOUR: 'it returns false'. Refute it at one input. -/
def fxMulsWrong : ChangeSpec := { name := "fxMuls", fn := fun _ => fun
  | [d] => { results := [.lit (.bool false)], args := [d] }
  | _ => none }
def FxMulsWrongFalsely : Prop := fxMulsRow.holds Try.pinned (OpenSpec.ofChange fxMulsWrong)

/-- 'gimballaw1.FxClamps': WHATEVER THE INPUT: true; the input reads as it did. -/
def fxClampsSpec : ChangeSpec := { name := "fxClamps", fn := fun _ => fun
  | [d] => { results := [.lit (.bool true)], args := [d] }
  | _ => none }
def fxClampsRow : OpenClaim := { program := "ythokdnheijnmmaa", sum := "aceafc570407ac2f826ccefdb502b6b4127cca20d7ac5a7226905f59ba522f16", func := "gimbal/gimballaw1.FxClamps", spec := "fxClamps", inPlace := ["math/bits.Add64"], unfollowed := true, recurses := true, apart := false }
def FxClampsSaid : Prop := fxClampsRow.holds Try.pinned (OpenSpec.ofChange fxClampsSpec)

/-- ITS FALSE NEIGHBOUR: 'it returns false'. Refute it at one input. -/
def fxClampsWrong : ChangeSpec := { name := "fxClamps", fn := fun _ => fun
  | [d] => { results := [.lit (.bool false)], args := [d] }
  | _ => none }
def FxClampsWrongFalsely : Prop := fxClampsRow.holds Try.pinned (OpenSpec.ofChange fxClampsWrong)

/-- 'gimballaw1.FxAdds': WHATEVER THE INPUT: true; the input reads as it did. -/
def fxAddsSpec : ChangeSpec := { name := "fxAdds", fn := fun _ => fun
  | [d] => { results := [.lit (.bool true)], args := [d] }
  | _ => none }
def fxAddsRow : OpenClaim := { program := "ythokdnheijnmmaa", sum := "aceafc570407ac2f826ccefdb502b6b4127cca20d7ac5a7226905f59ba522f16", func := "gimbal/gimballaw1.FxAdds", spec := "fxAdds", inPlace := ["math/bits.Add64"], unfollowed := true, recurses := true, apart := false }
def FxAddsSaid : Prop := fxAddsRow.holds Try.pinned (OpenSpec.ofChange fxAddsSpec)

/-- ITS FALSE NEIGHBOUR: 'it returns false'. Refute it at one input. -/
def fxAddsWrong : ChangeSpec := { name := "fxAdds", fn := fun _ => fun
  | [d] => { results := [.lit (.bool false)], args := [d] }
  | _ => none }
def FxAddsWrongFalsely : Prop := fxAddsRow.holds Try.pinned (OpenSpec.ofChange fxAddsWrong)

/-- 'gimballaw1.FxRatios': WHATEVER THE INPUT: true; the input reads as it did. -/
def fxRatiosSpec : ChangeSpec := { name := "fxRatios", fn := fun _ => fun
  | [d] => { results := [.lit (.bool true)], args := [d] }
  | _ => none }
def fxRatiosRow : OpenClaim := { program := "ythokdnheijnmmaa", sum := "aceafc570407ac2f826ccefdb502b6b4127cca20d7ac5a7226905f59ba522f16", func := "gimbal/gimballaw1.FxRatios", spec := "fxRatios", inPlace := ["math/bits.Add64", "math/bits.Sub64"], unfollowed := true, recurses := true, named := ["math/bits.divideError", "math/bits.overflowError"], apart := false }
def FxRatiosSaid : Prop := fxRatiosRow.holds Try.pinned (OpenSpec.ofChange fxRatiosSpec)

/-- ITS FALSE NEIGHBOUR: 'it returns false'. Refute it at one input. -/
def fxRatiosWrong : ChangeSpec := { name := "fxRatios", fn := fun _ => fun
  | [d] => { results := [.lit (.bool false)], args := [d] }
  | _ => none }
def FxRatiosWrongFalsely : Prop := fxRatiosRow.holds Try.pinned (OpenSpec.ofChange fxRatiosWrong)

/-- 'gimballaw1.FxDivs': WHATEVER THE INPUT: true; the input reads as it did. -/
def fxDivsSpec : ChangeSpec := { name := "fxDivs", fn := fun _ => fun
  | [d] => { results := [.lit (.bool true)], args := [d] }
  | _ => none }
def fxDivsRow : OpenClaim := { program := "ythokdnheijnmmaa", sum := "aceafc570407ac2f826ccefdb502b6b4127cca20d7ac5a7226905f59ba522f16", func := "gimbal/gimballaw1.FxDivs", spec := "fxDivs", inPlace := ["math/bits.Add64", "math/bits.Sub64"], unfollowed := true, recurses := true, named := ["math/bits.divideError", "math/bits.overflowError"], apart := false }
def FxDivsSaid : Prop := fxDivsRow.holds Try.pinned (OpenSpec.ofChange fxDivsSpec)

/-- ITS FALSE NEIGHBOUR: 'it returns false'. Refute it at one input. -/
def fxDivsWrong : ChangeSpec := { name := "fxDivs", fn := fun _ => fun
  | [d] => { results := [.lit (.bool false)], args := [d] }
  | _ => none }
def FxDivsWrongFalsely : Prop := fxDivsRow.holds Try.pinned (OpenSpec.ofChange fxDivsWrong)

/-- 'gimballaw1.FxOrder': WHATEVER THE INPUT: true; the input reads as it did. -/
def fxOrderSpec : ChangeSpec := { name := "fxOrder", fn := fun _ => fun
  | [d] => { results := [.lit (.bool true)], args := [d] }
  | _ => none }
def fxOrderRow : OpenClaim := { program := "ythokdnheijnmmaa", sum := "aceafc570407ac2f826ccefdb502b6b4127cca20d7ac5a7226905f59ba522f16", func := "gimbal/gimballaw1.FxOrder", spec := "fxOrder", inPlace := ["math/bits.Add64", "math/bits.Sub64"], unfollowed := true, recurses := true, named := ["math/bits.divideError", "math/bits.overflowError"], apart := false }
def FxOrderSaid : Prop := fxOrderRow.holds Try.pinned (OpenSpec.ofChange fxOrderSpec)

/-- ITS FALSE NEIGHBOUR: 'it returns false'. Refute it at one input. -/
def fxOrderWrong : ChangeSpec := { name := "fxOrder", fn := fun _ => fun
  | [d] => { results := [.lit (.bool false)], args := [d] }
  | _ => none }
def FxOrderWrongFalsely : Prop := fxOrderRow.holds Try.pinned (OpenSpec.ofChange fxOrderWrong)

/-- 'gimballaw1.FxExact': WHATEVER THE INPUT: true; the input reads as it did. -/
def fxExactSpec : ChangeSpec := { name := "fxExact", fn := fun _ => fun
  | [d] => { results := [.lit (.bool true)], args := [d] }
  | _ => none }
def fxExactRow : OpenClaim := { program := "ythokdnheijnmmaa", sum := "aceafc570407ac2f826ccefdb502b6b4127cca20d7ac5a7226905f59ba522f16", func := "gimbal/gimballaw1.FxExact", spec := "fxExact", inPlace := ["math/bits.Add64", "math/bits.Sub64"], unfollowed := true, recurses := true, named := ["math/bits.divideError", "math/bits.overflowError"], apart := false }
def FxExactSaid : Prop := fxExactRow.holds Try.pinned (OpenSpec.ofChange fxExactSpec)

/-- ITS FALSE NEIGHBOUR: 'it returns false'. Refute it at one input. -/
def fxExactWrong : ChangeSpec := { name := "fxExact", fn := fun _ => fun
  | [d] => { results := [.lit (.bool false)], args := [d] }
  | _ => none }
def FxExactWrongFalsely : Prop := fxExactRow.holds Try.pinned (OpenSpec.ofChange fxExactWrong)

/-- 'gimballaw1.FxSqrts': WHATEVER THE INPUT: true; the input reads as it did. -/
def fxSqrtsSpec : ChangeSpec := { name := "fxSqrts", fn := fun _ => fun
  | [d] => { results := [.lit (.bool true)], args := [d] }
  | _ => none }
def fxSqrtsRow : OpenClaim := { program := "ythokdnheijnmmaa", sum := "aceafc570407ac2f826ccefdb502b6b4127cca20d7ac5a7226905f59ba522f16", func := "gimbal/gimballaw1.FxSqrts", spec := "fxSqrts", inPlace := ["math/bits.Add64", "math/bits.Sub64"], unfollowed := true, recurses := true, named := ["math/bits.divideError", "math/bits.overflowError"], apart := false }
def FxSqrtsSaid : Prop := fxSqrtsRow.holds Try.pinned (OpenSpec.ofChange fxSqrtsSpec)

/-- ITS FALSE NEIGHBOUR: 'it returns false'. Refute it at one input. -/
def fxSqrtsWrong : ChangeSpec := { name := "fxSqrts", fn := fun _ => fun
  | [d] => { results := [.lit (.bool false)], args := [d] }
  | _ => none }
def FxSqrtsWrongFalsely : Prop := fxSqrtsRow.holds Try.pinned (OpenSpec.ofChange fxSqrtsWrong)

/-- 'gimballaw1.FxRoots': WHATEVER THE INPUT: true; the input reads as it did. -/
def fxRootsSpec : ChangeSpec := { name := "fxRoots", fn := fun _ => fun
  | [d] => { results := [.lit (.bool true)], args := [d] }
  | _ => none }
def fxRootsRow : OpenClaim := { program := "ythokdnheijnmmaa", sum := "aceafc570407ac2f826ccefdb502b6b4127cca20d7ac5a7226905f59ba522f16", func := "gimbal/gimballaw1.FxRoots", spec := "fxRoots", inPlace := ["math/bits.Add64", "math/bits.Sub64"], unfollowed := true, recurses := true, named := ["math/bits.divideError", "math/bits.overflowError"], apart := false }
def FxRootsSaid : Prop := fxRootsRow.holds Try.pinned (OpenSpec.ofChange fxRootsSpec)

/-- ITS FALSE NEIGHBOUR: 'it returns false'. Refute it at one input. -/
def fxRootsWrong : ChangeSpec := { name := "fxRoots", fn := fun _ => fun
  | [d] => { results := [.lit (.bool false)], args := [d] }
  | _ => none }
def FxRootsWrongFalsely : Prop := fxRootsRow.holds Try.pinned (OpenSpec.ofChange fxRootsWrong)

/-- 'gimballaw1.FxLaws': WHATEVER THE INPUT: true; the input reads as it did. -/
def fxLawsSpec : ChangeSpec := { name := "fxLaws", fn := fun _ => fun
  | [d] => { results := [.lit (.bool true)], args := [d] }
  | _ => none }
def fxLawsRow : OpenClaim := { program := "ythokdnheijnmmaa", sum := "aceafc570407ac2f826ccefdb502b6b4127cca20d7ac5a7226905f59ba522f16", func := "gimbal/gimballaw1.FxLaws", spec := "fxLaws", inPlace := ["math/bits.Add64", "math/bits.Sub64"], unfollowed := true, recurses := true, named := ["math/bits.divideError", "math/bits.overflowError"], apart := false }
def FxLawsSaid : Prop := fxLawsRow.holds Try.pinned (OpenSpec.ofChange fxLawsSpec)

/-- ITS FALSE NEIGHBOUR: 'it returns false'. Refute it at one input. -/
def fxLawsWrong : ChangeSpec := { name := "fxLaws", fn := fun _ => fun
  | [d] => { results := [.lit (.bool false)], args := [d] }
  | _ => none }
def FxLawsWrongFalsely : Prop := fxLawsRow.holds Try.pinned (OpenSpec.ofChange fxLawsWrong)

/- THE SECOND FORM. 'bulk': how many values and letters a reading holds, each counted each time it is reached (what is shared counts as often as it is met; a slice's spare places count too). A statement '..UptoSaid' is the law's where the arguments, and the package variables that the reading takes, are together of bulk at most 1048576: NARROWER than '..Said'. Prove '..Said' where nothing that the law and all that it calls make is longer than what came in: it says more and counts as full. Else prove '..UptoSaid'. A law counts once. -/
mutual
def uptoBulk {H : Type} : DataW H → Nat
  | .lit (.string bytes) => bytes.length + 1
  | .lit _ => 1
  | .nil => 1
  | .ptr d => uptoBulk d + 1
  | .slice elems spare => uptoBulkAll elems + uptoBulkAll spare + 1
  | .agg parts => uptoBulkAll parts + 1
  | .iface _ d => uptoBulk d + 1
  | .map entries => uptoBulkEntries entries + 1
  | .held _ => 1
def uptoBulkAll {H : Type} : List (DataW H) → Nat
  | [] => 0
  | d :: r => uptoBulk d + uptoBulkAll r
def uptoBulkEntries {H : Type} : List (Lit × DataW H) → Nat
  | [] => 0
  | x :: r => uptoBulkEntry x + uptoBulkEntries r
def uptoBulkEntry {H : Type} : Lit × DataW H → Nat
  | (.string bytes, d) => bytes.length + uptoBulk d + 1
  | (_, d) => uptoBulk d + 1
 end
def uptoSmall : (H : Type) → List (DataW H) → Bool := fun _ ds => decide (uptoBulkAll ds ≤ 1048576)
def OpenSpec.upto (s : _root_.Go.ChangeSpec) : _root_.Go.OpenSpec := { _root_.Go.OpenSpec.ofChange s with cond := some uptoSmall }

/-- 'gimballaw1.FxMuls', WHERE WHAT IT READS IS OF BULK AT MOST 1048576: true; the input reads as it did. -/
def fxMulsUptoRow : OpenClaim := { program := "ythokdnheijnmmaa", sum := "aceafc570407ac2f826ccefdb502b6b4127cca20d7ac5a7226905f59ba522f16", func := "gimbal/gimballaw1.FxMuls", spec := "fxMuls", inPlace := ["math/bits.Add64"], unfollowed := true, recurses := true, apart := false, narrowed := true }
def FxMulsUptoSaid : Prop := fxMulsUptoRow.holds Try.pinned (OpenSpec.upto fxMulsSpec)

/-- 'gimballaw1.FxClamps', WHERE WHAT IT READS IS OF BULK AT MOST 1048576: true; the input reads as it did. -/
def fxClampsUptoRow : OpenClaim := { program := "ythokdnheijnmmaa", sum := "aceafc570407ac2f826ccefdb502b6b4127cca20d7ac5a7226905f59ba522f16", func := "gimbal/gimballaw1.FxClamps", spec := "fxClamps", inPlace := ["math/bits.Add64"], unfollowed := true, recurses := true, apart := false, narrowed := true }
def FxClampsUptoSaid : Prop := fxClampsUptoRow.holds Try.pinned (OpenSpec.upto fxClampsSpec)

/-- 'gimballaw1.FxAdds', WHERE WHAT IT READS IS OF BULK AT MOST 1048576: true; the input reads as it did. -/
def fxAddsUptoRow : OpenClaim := { program := "ythokdnheijnmmaa", sum := "aceafc570407ac2f826ccefdb502b6b4127cca20d7ac5a7226905f59ba522f16", func := "gimbal/gimballaw1.FxAdds", spec := "fxAdds", inPlace := ["math/bits.Add64"], unfollowed := true, recurses := true, apart := false, narrowed := true }
def FxAddsUptoSaid : Prop := fxAddsUptoRow.holds Try.pinned (OpenSpec.upto fxAddsSpec)

/-- 'gimballaw1.FxRatios', WHERE WHAT IT READS IS OF BULK AT MOST 1048576: true; the input reads as it did. -/
def fxRatiosUptoRow : OpenClaim := { program := "ythokdnheijnmmaa", sum := "aceafc570407ac2f826ccefdb502b6b4127cca20d7ac5a7226905f59ba522f16", func := "gimbal/gimballaw1.FxRatios", spec := "fxRatios", inPlace := ["math/bits.Add64", "math/bits.Sub64"], unfollowed := true, recurses := true, named := ["math/bits.divideError", "math/bits.overflowError"], apart := false, narrowed := true }
def FxRatiosUptoSaid : Prop := fxRatiosUptoRow.holds Try.pinned (OpenSpec.upto fxRatiosSpec)

/-- 'gimballaw1.FxDivs', WHERE WHAT IT READS IS OF BULK AT MOST 1048576: true; the input reads as it did. -/
def fxDivsUptoRow : OpenClaim := { program := "ythokdnheijnmmaa", sum := "aceafc570407ac2f826ccefdb502b6b4127cca20d7ac5a7226905f59ba522f16", func := "gimbal/gimballaw1.FxDivs", spec := "fxDivs", inPlace := ["math/bits.Add64", "math/bits.Sub64"], unfollowed := true, recurses := true, named := ["math/bits.divideError", "math/bits.overflowError"], apart := false, narrowed := true }
def FxDivsUptoSaid : Prop := fxDivsUptoRow.holds Try.pinned (OpenSpec.upto fxDivsSpec)

/-- 'gimballaw1.FxOrder', WHERE WHAT IT READS IS OF BULK AT MOST 1048576: true; the input reads as it did. -/
def fxOrderUptoRow : OpenClaim := { program := "ythokdnheijnmmaa", sum := "aceafc570407ac2f826ccefdb502b6b4127cca20d7ac5a7226905f59ba522f16", func := "gimbal/gimballaw1.FxOrder", spec := "fxOrder", inPlace := ["math/bits.Add64", "math/bits.Sub64"], unfollowed := true, recurses := true, named := ["math/bits.divideError", "math/bits.overflowError"], apart := false, narrowed := true }
def FxOrderUptoSaid : Prop := fxOrderUptoRow.holds Try.pinned (OpenSpec.upto fxOrderSpec)

/-- 'gimballaw1.FxExact', WHERE WHAT IT READS IS OF BULK AT MOST 1048576: true; the input reads as it did. -/
def fxExactUptoRow : OpenClaim := { program := "ythokdnheijnmmaa", sum := "aceafc570407ac2f826ccefdb502b6b4127cca20d7ac5a7226905f59ba522f16", func := "gimbal/gimballaw1.FxExact", spec := "fxExact", inPlace := ["math/bits.Add64", "math/bits.Sub64"], unfollowed := true, recurses := true, named := ["math/bits.divideError", "math/bits.overflowError"], apart := false, narrowed := true }
def FxExactUptoSaid : Prop := fxExactUptoRow.holds Try.pinned (OpenSpec.upto fxExactSpec)

/-- 'gimballaw1.FxSqrts', WHERE WHAT IT READS IS OF BULK AT MOST 1048576: true; the input reads as it did. -/
def fxSqrtsUptoRow : OpenClaim := { program := "ythokdnheijnmmaa", sum := "aceafc570407ac2f826ccefdb502b6b4127cca20d7ac5a7226905f59ba522f16", func := "gimbal/gimballaw1.FxSqrts", spec := "fxSqrts", inPlace := ["math/bits.Add64", "math/bits.Sub64"], unfollowed := true, recurses := true, named := ["math/bits.divideError", "math/bits.overflowError"], apart := false, narrowed := true }
def FxSqrtsUptoSaid : Prop := fxSqrtsUptoRow.holds Try.pinned (OpenSpec.upto fxSqrtsSpec)

/-- 'gimballaw1.FxRoots', WHERE WHAT IT READS IS OF BULK AT MOST 1048576: true; the input reads as it did. -/
def fxRootsUptoRow : OpenClaim := { program := "ythokdnheijnmmaa", sum := "aceafc570407ac2f826ccefdb502b6b4127cca20d7ac5a7226905f59ba522f16", func := "gimbal/gimballaw1.FxRoots", spec := "fxRoots", inPlace := ["math/bits.Add64", "math/bits.Sub64"], unfollowed := true, recurses := true, named := ["math/bits.divideError", "math/bits.overflowError"], apart := false, narrowed := true }
def FxRootsUptoSaid : Prop := fxRootsUptoRow.holds Try.pinned (OpenSpec.upto fxRootsSpec)

/-- 'gimballaw1.FxLaws', WHERE WHAT IT READS IS OF BULK AT MOST 1048576: true; the input reads as it did. -/
def fxLawsUptoRow : OpenClaim := { program := "ythokdnheijnmmaa", sum := "aceafc570407ac2f826ccefdb502b6b4127cca20d7ac5a7226905f59ba522f16", func := "gimbal/gimballaw1.FxLaws", spec := "fxLaws", inPlace := ["math/bits.Add64", "math/bits.Sub64"], unfollowed := true, recurses := true, named := ["math/bits.divideError", "math/bits.overflowError"], apart := false, narrowed := true }
def FxLawsUptoSaid : Prop := fxLawsUptoRow.holds Try.pinned (OpenSpec.upto fxLawsSpec)

end Rows
end Go.Proofs.Ythokdnheijnmmaa
