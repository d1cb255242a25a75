/-
  No cell of these rows narrows 'for every input' (looked for: loops, veiled, ifaces, maps, wideKeys, modest, calm, conditions, laid).
  DERIVED. THE GIVEN ROWS OF THIS SEAT. 12 by the template 'for every input the law returns true; each argument reads behind the call as it read before'; 0 by the template 'total and deterministic' (their statements: YtcgknibjbnijmaaTotals.lean).
  GIVEN WITH THE SEED: the statements are not yours to turn. If you find one false, say at which input.
  Laid BY PROGRAM, IN A SANDBOX (cutbox-rows.mjs): the forced cells as the released guide's own fill.sh prints them over the translation 0585ee458c99d7da… (all of the seat's roots in one cut). By AI agents, Wed Nov 11 2026. No macro, syntax, notation, axiom, sorry.
-/
import Derived.Test.YtcgknibjbnijmaaChecked
import GoSem.Claim
import GoSem.ClaimJoined
import GoSem.ClaimMapViews
import Derived.JoinedTies
import Derived.KernelRfl
namespace Go.Proofs.Ytcgknibjbnijmaa
/- THE CELL 'sum', in the pinned program and in every row, IS THE sha256 OF THE DUMP (.gsa) THAT YtcgknibjbnijmaaProg.lean LOADS. Nothing in Lean hashes anything: it is a label: what it is worth is what the hold of that sum in a sandbox is worth. -/
noncomputable def Try.pinned : Pinned := { name := "ytcgknibjbnijmaa", sum := "0585ee458c99d7dacb738ae23ada6d894360afb1b3673a0fb15ce15d00b3a70f", checked := Try.checked }
namespace Rows
def none {H : Type} : Left H := { results := [], args := [] }

/-- 'gimballaw26.PowerNeeds': WHATEVER THE INPUT: true; the input reads as it did. -/
def powerNeedsSpec : ChangeSpec := { name := "powerNeeds", fn := fun _ => fun
  | [d] => { results := [.lit (.bool true)], args := [d] }
  | _ => none }
def powerNeedsRow : OpenClaim := { program := "ytcgknibjbnijmaa", sum := "0585ee458c99d7dacb738ae23ada6d894360afb1b3673a0fb15ce15d00b3a70f", func := "gimbal/gimballaw26.PowerNeeds", spec := "powerNeeds", apart := false }
def PowerNeedsSaid : Prop := powerNeedsRow.holds Try.pinned (OpenSpec.ofChange powerNeedsSpec)

/-- ITS FALSE NEIGHBOUR: 'it returns false'. Refute it at one input. -/
def powerNeedsWrong : ChangeSpec := { name := "powerNeeds", fn := fun _ => fun
  | [d] => { results := [.lit (.bool false)], args := [d] }
  | _ => none }
def PowerNeedsWrongFalsely : Prop := powerNeedsRow.holds Try.pinned (OpenSpec.ofChange powerNeedsWrong)

/-- 'gimballaw21.MotionStill': WHATEVER THE INPUT: true; the input reads as it did. -/
def motionStillSpec : ChangeSpec := { name := "motionStill", fn := fun _ => fun
  | [d] => { results := [.lit (.bool true)], args := [d] }
  | _ => none }
def motionStillRow : OpenClaim := { program := "ytcgknibjbnijmaa", sum := "0585ee458c99d7dacb738ae23ada6d894360afb1b3673a0fb15ce15d00b3a70f", func := "gimbal/gimballaw21.MotionStill", spec := "motionStill", apart := false }
def MotionStillSaid : Prop := motionStillRow.holds Try.pinned (OpenSpec.ofChange motionStillSpec)

/-- ITS FALSE NEIGHBOUR: 'it returns false'. Refute it at one input. -/
def motionStillWrong : ChangeSpec := { name := "motionStill", fn := fun _ => fun
  | [d] => { results := [.lit (.bool false)], args := [d] }
  | _ => none }
def MotionStillWrongFalsely : Prop := motionStillRow.holds Try.pinned (OpenSpec.ofChange motionStillWrong)

/-- 'gimballaw21.MotionExact': WHATEVER THE INPUT: true; the input reads as it did. -/
def motionExactSpec : ChangeSpec := { name := "motionExact", fn := fun _ => fun
  | [d] => { results := [.lit (.bool true)], args := [d] }
  | _ => none }
def motionExactRow : OpenClaim := { program := "ytcgknibjbnijmaa", sum := "0585ee458c99d7dacb738ae23ada6d894360afb1b3673a0fb15ce15d00b3a70f", func := "gimbal/gimballaw21.MotionExact", spec := "motionExact", apart := false }
def MotionExactSaid : Prop := motionExactRow.holds Try.pinned (OpenSpec.ofChange motionExactSpec)

/-- ITS FALSE NEIGHBOUR: 'it returns false'. Refute it at one input. -/
def motionExactWrong : ChangeSpec := { name := "motionExact", fn := fun _ => fun
  | [d] => { results := [.lit (.bool false)], args := [d] }
  | _ => none }
def MotionExactWrongFalsely : Prop := motionExactRow.holds Try.pinned (OpenSpec.ofChange motionExactWrong)

/-- 'gimballaw21.MotionWindows': WHATEVER THE INPUT: true; the input reads as it did. -/
def motionWindowsSpec : ChangeSpec := { name := "motionWindows", fn := fun _ => fun
  | [d] => { results := [.lit (.bool true)], args := [d] }
  | _ => none }
def motionWindowsRow : OpenClaim := { program := "ytcgknibjbnijmaa", sum := "0585ee458c99d7dacb738ae23ada6d894360afb1b3673a0fb15ce15d00b3a70f", func := "gimbal/gimballaw21.MotionWindows", spec := "motionWindows", apart := false }
def MotionWindowsSaid : Prop := motionWindowsRow.holds Try.pinned (OpenSpec.ofChange motionWindowsSpec)

/-- ITS FALSE NEIGHBOUR: 'it returns false'. Refute it at one input. -/
def motionWindowsWrong : ChangeSpec := { name := "motionWindows", fn := fun _ => fun
  | [d] => { results := [.lit (.bool false)], args := [d] }
  | _ => none }
def MotionWindowsWrongFalsely : Prop := motionWindowsRow.holds Try.pinned (OpenSpec.ofChange motionWindowsWrong)

/-- 'gimballaw29.FlashBits': WHATEVER THE INPUT: true; the input reads as it did. -/
def flashBitsSpec : ChangeSpec := { name := "flashBits", fn := fun _ => fun
  | [d] => { results := [.lit (.bool true)], args := [d] }
  | _ => none }
def flashBitsRow : OpenClaim := { program := "ytcgknibjbnijmaa", sum := "0585ee458c99d7dacb738ae23ada6d894360afb1b3673a0fb15ce15d00b3a70f", func := "gimbal/gimballaw29.FlashBits", spec := "flashBits", apart := false }
def FlashBitsSaid : Prop := flashBitsRow.holds Try.pinned (OpenSpec.ofChange flashBitsSpec)

/-- ITS FALSE NEIGHBOUR: 'it returns false'. Refute it at one input. -/
def flashBitsWrong : ChangeSpec := { name := "flashBits", fn := fun _ => fun
  | [d] => { results := [.lit (.bool false)], args := [d] }
  | _ => none }
def FlashBitsWrongFalsely : Prop := flashBitsRow.holds Try.pinned (OpenSpec.ofChange flashBitsWrong)

/-- 'gimballaw26.PowerExact': WHATEVER THE INPUT: true; the input reads as it did. -/
def powerExactSpec : ChangeSpec := { name := "powerExact", fn := fun _ => fun
  | [d] => { results := [.lit (.bool true)], args := [d] }
  | _ => none }
def powerExactRow : OpenClaim := { program := "ytcgknibjbnijmaa", sum := "0585ee458c99d7dacb738ae23ada6d894360afb1b3673a0fb15ce15d00b3a70f", func := "gimbal/gimballaw26.PowerExact", spec := "powerExact", apart := false }
def PowerExactSaid : Prop := powerExactRow.holds Try.pinned (OpenSpec.ofChange powerExactSpec)

/-- ITS FALSE NEIGHBOUR: 'it returns false'. Refute it at one input. -/
def powerExactWrong : ChangeSpec := { name := "powerExact", fn := fun _ => fun
  | [d] => { results := [.lit (.bool false)], args := [d] }
  | _ => none }
def PowerExactWrongFalsely : Prop := powerExactRow.holds Try.pinned (OpenSpec.ofChange powerExactWrong)

/-- 'gimballaw26.PowerClosed': WHATEVER THE INPUT: true; the input reads as it did. -/
def powerClosedSpec : ChangeSpec := { name := "powerClosed", fn := fun _ => fun
  | [d] => { results := [.lit (.bool true)], args := [d] }
  | _ => none }
def powerClosedRow : OpenClaim := { program := "ytcgknibjbnijmaa", sum := "0585ee458c99d7dacb738ae23ada6d894360afb1b3673a0fb15ce15d00b3a70f", func := "gimbal/gimballaw26.PowerClosed", spec := "powerClosed", apart := false }
def PowerClosedSaid : Prop := powerClosedRow.holds Try.pinned (OpenSpec.ofChange powerClosedSpec)

/-- ITS FALSE NEIGHBOUR: 'it returns false'. Refute it at one input. -/
def powerClosedWrong : ChangeSpec := { name := "powerClosed", fn := fun _ => fun
  | [d] => { results := [.lit (.bool false)], args := [d] }
  | _ => none }
def PowerClosedWrongFalsely : Prop := powerClosedRow.holds Try.pinned (OpenSpec.ofChange powerClosedWrong)

/-- 'gimballaw26.PowerSingles': WHATEVER THE INPUT: true; the input reads as it did. -/
def powerSinglesSpec : ChangeSpec := { name := "powerSingles", fn := fun _ => fun
  | [d] => { results := [.lit (.bool true)], args := [d] }
  | _ => none }
def powerSinglesRow : OpenClaim := { program := "ytcgknibjbnijmaa", sum := "0585ee458c99d7dacb738ae23ada6d894360afb1b3673a0fb15ce15d00b3a70f", func := "gimbal/gimballaw26.PowerSingles", spec := "powerSingles", apart := false }
def PowerSinglesSaid : Prop := powerSinglesRow.holds Try.pinned (OpenSpec.ofChange powerSinglesSpec)

/-- ITS FALSE NEIGHBOUR: 'it returns false'. Refute it at one input. -/
def powerSinglesWrong : ChangeSpec := { name := "powerSingles", fn := fun _ => fun
  | [d] => { results := [.lit (.bool false)], args := [d] }
  | _ => none }
def PowerSinglesWrongFalsely : Prop := powerSinglesRow.holds Try.pinned (OpenSpec.ofChange powerSinglesWrong)

/-- 'gimballaw29.FlashPages': WHATEVER THE INPUT: true; the input reads as it did. -/
def flashPagesSpec : ChangeSpec := { name := "flashPages", fn := fun _ => fun
  | [d] => { results := [.lit (.bool true)], args := [d] }
  | _ => none }
def flashPagesRow : OpenClaim := { program := "ytcgknibjbnijmaa", sum := "0585ee458c99d7dacb738ae23ada6d894360afb1b3673a0fb15ce15d00b3a70f", func := "gimbal/gimballaw29.FlashPages", spec := "flashPages", apart := false }
def FlashPagesSaid : Prop := flashPagesRow.holds Try.pinned (OpenSpec.ofChange flashPagesSpec)

/-- ITS FALSE NEIGHBOUR: 'it returns false'. Refute it at one input. -/
def flashPagesWrong : ChangeSpec := { name := "flashPages", fn := fun _ => fun
  | [d] => { results := [.lit (.bool false)], args := [d] }
  | _ => none }
def FlashPagesWrongFalsely : Prop := flashPagesRow.holds Try.pinned (OpenSpec.ofChange flashPagesWrong)

/-- 'gimballaw1.FxMuls': WHATEVER THE INPUT: true; the input reads as it did. -/
def fxMulsSpec : ChangeSpec := { name := "fxMuls", fn := fun _ => fun
  | [d] => { results := [.lit (.bool true)], args := [d] }
  | _ => none }
def fxMulsRow : OpenClaim := { program := "ytcgknibjbnijmaa", sum := "0585ee458c99d7dacb738ae23ada6d894360afb1b3673a0fb15ce15d00b3a70f", func := "gimbal/gimballaw1.FxMuls", spec := "fxMuls", inPlace := ["math/bits.Add64"], unfollowed := true, recurses := true, apart := false }
def FxMulsSaid : Prop := fxMulsRow.holds Try.pinned (OpenSpec.ofChange fxMulsSpec)

/-- ITS FALSE NEIGHBOUR: 'it returns false'. Refute it at one input. -/
def fxMulsWrong : ChangeSpec := { name := "fxMuls", fn := fun _ => fun
  | [d] => { results := [.lit (.bool false)], args := [d] }
  | _ => none }
def FxMulsWrongFalsely : Prop := fxMulsRow.holds Try.pinned (OpenSpec.ofChange fxMulsWrong)

/-- 'gimballaw1.FxClamps': WHATEVER THE INPUT: true; the input reads as it did. -/
def fxClampsSpec : ChangeSpec := { name := "fxClamps", fn := fun _ => fun
  | [d] => { results := [.lit (.bool true)], args := [d] }
  | _ => none }
def fxClampsRow : OpenClaim := { program := "ytcgknibjbnijmaa", sum := "0585ee458c99d7dacb738ae23ada6d894360afb1b3673a0fb15ce15d00b3a70f", func := "gimbal/gimballaw1.FxClamps", spec := "fxClamps", inPlace := ["math/bits.Add64"], unfollowed := true, recurses := true, apart := false }
def FxClampsSaid : Prop := fxClampsRow.holds Try.pinned (OpenSpec.ofChange fxClampsSpec)

/-- ITS FALSE NEIGHBOUR: 'it returns false'. Refute it at one input. -/
def fxClampsWrong : ChangeSpec := { name := "fxClamps", fn := fun _ => fun
  | [d] => { results := [.lit (.bool false)], args := [d] }
  | _ => none }
def FxClampsWrongFalsely : Prop := fxClampsRow.holds Try.pinned (OpenSpec.ofChange fxClampsWrong)

/-- 'gimballaw1.FxAdds': WHATEVER THE INPUT: true; the input reads as it did. -/
def fxAddsSpec : ChangeSpec := { name := "fxAdds", fn := fun _ => fun
  | [d] => { results := [.lit (.bool true)], args := [d] }
  | _ => none }
def fxAddsRow : OpenClaim := { program := "ytcgknibjbnijmaa", sum := "0585ee458c99d7dacb738ae23ada6d894360afb1b3673a0fb15ce15d00b3a70f", func := "gimbal/gimballaw1.FxAdds", spec := "fxAdds", inPlace := ["math/bits.Add64"], unfollowed := true, recurses := true, apart := false }
def FxAddsSaid : Prop := fxAddsRow.holds Try.pinned (OpenSpec.ofChange fxAddsSpec)

/-- ITS FALSE NEIGHBOUR: 'it returns false'. Refute it at one input. -/
def fxAddsWrong : ChangeSpec := { name := "fxAdds", fn := fun _ => fun
  | [d] => { results := [.lit (.bool false)], args := [d] }
  | _ => none }
def FxAddsWrongFalsely : Prop := fxAddsRow.holds Try.pinned (OpenSpec.ofChange fxAddsWrong)

/- THE SECOND FORM. 'bulk': how many values and letters a reading holds, each counted each time it is reached (what is shared counts as often as it is met; a slice's spare places count too). A statement '..UptoSaid' is the law's where the arguments, and the package variables that the reading takes, are together of bulk at most 1048576: NARROWER than '..Said'. Prove '..Said' where nothing that the law and all that it calls make is longer than what came in: it says more and counts as full. Else prove '..UptoSaid'. A law counts once. -/
mutual
def uptoBulk {H : Type} : DataW H → Nat
  | .lit (.string bytes) => bytes.length + 1
  | .lit _ => 1
  | .nil => 1
  | .ptr d => uptoBulk d + 1
  | .slice elems spare => uptoBulkAll elems + uptoBulkAll spare + 1
  | .agg parts => uptoBulkAll parts + 1
  | .iface _ d => uptoBulk d + 1
  | .map entries => uptoBulkEntries entries + 1
  | .held _ => 1
def uptoBulkAll {H : Type} : List (DataW H) → Nat
  | [] => 0
  | d :: r => uptoBulk d + uptoBulkAll r
def uptoBulkEntries {H : Type} : List (Lit × DataW H) → Nat
  | [] => 0
  | x :: r => uptoBulkEntry x + uptoBulkEntries r
def uptoBulkEntry {H : Type} : Lit × DataW H → Nat
  | (.string bytes, d) => bytes.length + uptoBulk d + 1
  | (_, d) => uptoBulk d + 1
 end
def uptoSmall : (H : Type) → List (DataW H) → Bool := fun _ ds => decide (uptoBulkAll ds ≤ 1048576)
def OpenSpec.upto (s : _root_.Go.ChangeSpec) : _root_.Go.OpenSpec := { _root_.Go.OpenSpec.ofChange s with cond := some uptoSmall }

/-- 'gimballaw26.PowerNeeds', WHERE WHAT IT READS IS OF BULK AT MOST 1048576: true; the input reads as it did. -/
def powerNeedsUptoRow : OpenClaim := { program := "ytcgknibjbnijmaa", sum := "0585ee458c99d7dacb738ae23ada6d894360afb1b3673a0fb15ce15d00b3a70f", func := "gimbal/gimballaw26.PowerNeeds", spec := "powerNeeds", apart := false, narrowed := true }
def PowerNeedsUptoSaid : Prop := powerNeedsUptoRow.holds Try.pinned (OpenSpec.upto powerNeedsSpec)

/-- 'gimballaw21.MotionStill', WHERE WHAT IT READS IS OF BULK AT MOST 1048576: true; the input reads as it did. -/
def motionStillUptoRow : OpenClaim := { program := "ytcgknibjbnijmaa", sum := "0585ee458c99d7dacb738ae23ada6d894360afb1b3673a0fb15ce15d00b3a70f", func := "gimbal/gimballaw21.MotionStill", spec := "motionStill", apart := false, narrowed := true }
def MotionStillUptoSaid : Prop := motionStillUptoRow.holds Try.pinned (OpenSpec.upto motionStillSpec)

/-- 'gimballaw21.MotionExact', WHERE WHAT IT READS IS OF BULK AT MOST 1048576: true; the input reads as it did. -/
def motionExactUptoRow : OpenClaim := { program := "ytcgknibjbnijmaa", sum := "0585ee458c99d7dacb738ae23ada6d894360afb1b3673a0fb15ce15d00b3a70f", func := "gimbal/gimballaw21.MotionExact", spec := "motionExact", apart := false, narrowed := true }
def MotionExactUptoSaid : Prop := motionExactUptoRow.holds Try.pinned (OpenSpec.upto motionExactSpec)

/-- 'gimballaw21.MotionWindows', WHERE WHAT IT READS IS OF BULK AT MOST 1048576: true; the input reads as it did. -/
def motionWindowsUptoRow : OpenClaim := { program := "ytcgknibjbnijmaa", sum := "0585ee458c99d7dacb738ae23ada6d894360afb1b3673a0fb15ce15d00b3a70f", func := "gimbal/gimballaw21.MotionWindows", spec := "motionWindows", apart := false, narrowed := true }
def MotionWindowsUptoSaid : Prop := motionWindowsUptoRow.holds Try.pinned (OpenSpec.upto motionWindowsSpec)

/-- 'gimballaw29.FlashBits', WHERE WHAT IT READS IS OF BULK AT MOST 1048576: true; the input reads as it did. -/
def flashBitsUptoRow : OpenClaim := { program := "ytcgknibjbnijmaa", sum := "0585ee458c99d7dacb738ae23ada6d894360afb1b3673a0fb15ce15d00b3a70f", func := "gimbal/gimballaw29.FlashBits", spec := "flashBits", apart := false, narrowed := true }
def FlashBitsUptoSaid : Prop := flashBitsUptoRow.holds Try.pinned (OpenSpec.upto flashBitsSpec)

/-- 'gimballaw26.PowerExact', WHERE WHAT IT READS IS OF BULK AT MOST 1048576: true; the input reads as it did. -/
def powerExactUptoRow : OpenClaim := { program := "ytcgknibjbnijmaa", sum := "0585ee458c99d7dacb738ae23ada6d894360afb1b3673a0fb15ce15d00b3a70f", func := "gimbal/gimballaw26.PowerExact", spec := "powerExact", apart := false, narrowed := true }
def PowerExactUptoSaid : Prop := powerExactUptoRow.holds Try.pinned (OpenSpec.upto powerExactSpec)

/-- 'gimballaw26.PowerClosed', WHERE WHAT IT READS IS OF BULK AT MOST 1048576: true; the input reads as it did. -/
def powerClosedUptoRow : OpenClaim := { program := "ytcgknibjbnijmaa", sum := "0585ee458c99d7dacb738ae23ada6d894360afb1b3673a0fb15ce15d00b3a70f", func := "gimbal/gimballaw26.PowerClosed", spec := "powerClosed", apart := false, narrowed := true }
def PowerClosedUptoSaid : Prop := powerClosedUptoRow.holds Try.pinned (OpenSpec.upto powerClosedSpec)

/-- 'gimballaw26.PowerSingles', WHERE WHAT IT READS IS OF BULK AT MOST 1048576: true; the input reads as it did. -/
def powerSinglesUptoRow : OpenClaim := { program := "ytcgknibjbnijmaa", sum := "0585ee458c99d7dacb738ae23ada6d894360afb1b3673a0fb15ce15d00b3a70f", func := "gimbal/gimballaw26.PowerSingles", spec := "powerSingles", apart := false, narrowed := true }
def PowerSinglesUptoSaid : Prop := powerSinglesUptoRow.holds Try.pinned (OpenSpec.upto powerSinglesSpec)

/-- 'gimballaw29.FlashPages', WHERE WHAT IT READS IS OF BULK AT MOST 1048576: true; the input reads as it did. -/
def flashPagesUptoRow : OpenClaim := { program := "ytcgknibjbnijmaa", sum := "0585ee458c99d7dacb738ae23ada6d894360afb1b3673a0fb15ce15d00b3a70f", func := "gimbal/gimballaw29.FlashPages", spec := "flashPages", apart := false, narrowed := true }
def FlashPagesUptoSaid : Prop := flashPagesUptoRow.holds Try.pinned (OpenSpec.upto flashPagesSpec)

/-- 'gimballaw1.FxMuls', WHERE WHAT IT READS IS OF BULK AT MOST 1048576: true; the input reads as it did. -/
def fxMulsUptoRow : OpenClaim := { program := "ytcgknibjbnijmaa", sum := "0585ee458c99d7dacb738ae23ada6d894360afb1b3673a0fb15ce15d00b3a70f", func := "gimbal/gimballaw1.FxMuls", spec := "fxMuls", inPlace := ["math/bits.Add64"], unfollowed := true, recurses := true, apart := false, narrowed := true }
def FxMulsUptoSaid : Prop := fxMulsUptoRow.holds Try.pinned (OpenSpec.upto fxMulsSpec)

/-- 'gimballaw1.FxClamps', WHERE WHAT IT READS IS OF BULK AT MOST 1048576: true; the input reads as it did. -/
def fxClampsUptoRow : OpenClaim := { program := "ytcgknibjbnijmaa", sum := "0585ee458c99d7dacb738ae23ada6d894360afb1b3673a0fb15ce15d00b3a70f", func := "gimbal/gimballaw1.FxClamps", spec := "fxClamps", inPlace := ["math/bits.Add64"], unfollowed := true, recurses := true, apart := false, narrowed := true }
def FxClampsUptoSaid : Prop := fxClampsUptoRow.holds Try.pinned (OpenSpec.upto fxClampsSpec)

/-- 'gimballaw1.FxAdds', WHERE WHAT IT READS IS OF BULK AT MOST 1048576: true; the input reads as it did. -/
def fxAddsUptoRow : OpenClaim := { program := "ytcgknibjbnijmaa", sum := "0585ee458c99d7dacb738ae23ada6d894360afb1b3673a0fb15ce15d00b3a70f", func := "gimbal/gimballaw1.FxAdds", spec := "fxAdds", inPlace := ["math/bits.Add64"], unfollowed := true, recurses := true, apart := false, narrowed := true }
def FxAddsUptoSaid : Prop := fxAddsUptoRow.holds Try.pinned (OpenSpec.upto fxAddsSpec)

end Rows
end Go.Proofs.Ytcgknibjbnijmaa
