/-
  No cell of these rows narrows 'for every input' (looked for: loops, veiled, ifaces, maps, wideKeys, modest, calm, conditions, laid).
  DERIVED. THE GIVEN ROWS OF THIS SEAT. 9 by the template 'for every input the law returns true; each argument reads behind the call as it read before'; 0 by the template 'total and deterministic' (their statements: YtonelbidndjhdaaTotals.lean).
  GIVEN WITH THE SEED: the statements are not yours to turn. If you find one false, say at which input.
  Laid BY PROGRAM, IN A SANDBOX (cutbox-rows.mjs): the forced cells as the released guide's own fill.sh prints them over the translation 56708eafa5c3dbf4… (all of the seat's roots in one cut). By AI agents, Wed Nov 11 2026. No macro, syntax, notation, axiom, sorry.
-/
import Derived.Test.YtonelbidndjhdaaChecked
import GoSem.Claim
import GoSem.ClaimJoined
import GoSem.ClaimMapViews
import Derived.JoinedTies
import Derived.KernelRfl
namespace Go.Proofs.Ytonelbidndjhdaa
/- THE CELL 'sum', in the pinned program and in every row, IS THE sha256 OF THE DUMP (.gsa) THAT YtonelbidndjhdaaProg.lean LOADS. Nothing in Lean hashes anything: it is a label: what it is worth is what the hold of that sum in a sandbox is worth. -/
noncomputable def Try.pinned : Pinned := { name := "ytonelbidndjhdaa", sum := "56708eafa5c3dbf4a5e9473cce69b07ca14b8218570f90719c165c516f6829b3", checked := Try.checked }
namespace Rows
def none {H : Type} : Left H := { results := [], args := [] }

/-- 'gimballaw19.TiltNear': WHATEVER THE INPUT: true; the input reads as it did. -/
def tiltNearSpec : ChangeSpec := { name := "tiltNear", fn := fun _ => fun
  | [d] => { results := [.lit (.bool true)], args := [d] }
  | _ => none }
def tiltNearRow : OpenClaim := { program := "ytonelbidndjhdaa", sum := "56708eafa5c3dbf4a5e9473cce69b07ca14b8218570f90719c165c516f6829b3", func := "gimbal/gimballaw19.TiltNear", spec := "tiltNear", inPlace := ["math/bits.Add64", "math/bits.Sub64"], unfollowed := true, recurses := true, named := ["math/bits.divideError", "math/bits.overflowError"], apart := false }
def TiltNearSaid : Prop := tiltNearRow.holds Try.pinned (OpenSpec.ofChange tiltNearSpec)

/-- ITS FALSE NEIGHBOUR: 'it returns false'. Refute it at one input. -/
def tiltNearWrong : ChangeSpec := { name := "tiltNear", fn := fun _ => fun
  | [d] => { results := [.lit (.bool false)], args := [d] }
  | _ => none }
def TiltNearWrongFalsely : Prop := tiltNearRow.holds Try.pinned (OpenSpec.ofChange tiltNearWrong)

/-- 'gimballaw19.TiltExact': WHATEVER THE INPUT: true; the input reads as it did. -/
def tiltExactSpec : ChangeSpec := { name := "tiltExact", fn := fun _ => fun
  | [d] => { results := [.lit (.bool true)], args := [d] }
  | _ => none }
def tiltExactRow : OpenClaim := { program := "ytonelbidndjhdaa", sum := "56708eafa5c3dbf4a5e9473cce69b07ca14b8218570f90719c165c516f6829b3", func := "gimbal/gimballaw19.TiltExact", spec := "tiltExact", inPlace := ["math/bits.Add64", "math/bits.Sub64"], unfollowed := true, recurses := true, named := ["math/bits.divideError", "math/bits.overflowError"], apart := false }
def TiltExactSaid : Prop := tiltExactRow.holds Try.pinned (OpenSpec.ofChange tiltExactSpec)

/-- ITS FALSE NEIGHBOUR: 'it returns false'. Refute it at one input. -/
def tiltExactWrong : ChangeSpec := { name := "tiltExact", fn := fun _ => fun
  | [d] => { results := [.lit (.bool false)], args := [d] }
  | _ => none }
def TiltExactWrongFalsely : Prop := tiltExactRow.holds Try.pinned (OpenSpec.ofChange tiltExactWrong)

/-- 'gimballaw19.TiltAway': WHATEVER THE INPUT: true; the input reads as it did. -/
def tiltAwaySpec : ChangeSpec := { name := "tiltAway", fn := fun _ => fun
  | [d] => { results := [.lit (.bool true)], args := [d] }
  | _ => none }
def tiltAwayRow : OpenClaim := { program := "ytonelbidndjhdaa", sum := "56708eafa5c3dbf4a5e9473cce69b07ca14b8218570f90719c165c516f6829b3", func := "gimbal/gimballaw19.TiltAway", spec := "tiltAway", inPlace := ["math/bits.Add64", "math/bits.Sub64"], unfollowed := true, recurses := true, named := ["math/bits.divideError", "math/bits.overflowError"], apart := false }
def TiltAwaySaid : Prop := tiltAwayRow.holds Try.pinned (OpenSpec.ofChange tiltAwaySpec)

/-- ITS FALSE NEIGHBOUR: 'it returns false'. Refute it at one input. -/
def tiltAwayWrong : ChangeSpec := { name := "tiltAway", fn := fun _ => fun
  | [d] => { results := [.lit (.bool false)], args := [d] }
  | _ => none }
def TiltAwayWrongFalsely : Prop := tiltAwayRow.holds Try.pinned (OpenSpec.ofChange tiltAwayWrong)

/-- 'gimballaw10.CalPlain': WHATEVER THE INPUT: true; the input reads as it did. -/
def calPlainSpec : ChangeSpec := { name := "calPlain", fn := fun _ => fun
  | [d] => { results := [.lit (.bool true)], args := [d] }
  | _ => none }
def calPlainRow : OpenClaim := { program := "ytonelbidndjhdaa", sum := "56708eafa5c3dbf4a5e9473cce69b07ca14b8218570f90719c165c516f6829b3", func := "gimbal/gimballaw10.CalPlain", spec := "calPlain", inPlace := ["math/bits.Add64", "math/bits.Sub64"], unfollowed := true, recurses := true, named := ["math/bits.divideError", "math/bits.overflowError"], apart := false }
def CalPlainSaid : Prop := calPlainRow.holds Try.pinned (OpenSpec.ofChange calPlainSpec)

/-- ITS FALSE NEIGHBOUR: 'it returns false'. Refute it at one input. -/
def calPlainWrong : ChangeSpec := { name := "calPlain", fn := fun _ => fun
  | [d] => { results := [.lit (.bool false)], args := [d] }
  | _ => none }
def CalPlainWrongFalsely : Prop := calPlainRow.holds Try.pinned (OpenSpec.ofChange calPlainWrong)

/-- 'gimballaw10.CalHeat': WHATEVER THE INPUT: true; the input reads as it did. -/
def calHeatSpec : ChangeSpec := { name := "calHeat", fn := fun _ => fun
  | [d] => { results := [.lit (.bool true)], args := [d] }
  | _ => none }
def calHeatRow : OpenClaim := { program := "ytonelbidndjhdaa", sum := "56708eafa5c3dbf4a5e9473cce69b07ca14b8218570f90719c165c516f6829b3", func := "gimbal/gimballaw10.CalHeat", spec := "calHeat", inPlace := ["math/bits.Add64", "math/bits.Sub64"], unfollowed := true, recurses := true, named := ["math/bits.divideError", "math/bits.overflowError"], apart := false }
def CalHeatSaid : Prop := calHeatRow.holds Try.pinned (OpenSpec.ofChange calHeatSpec)

/-- ITS FALSE NEIGHBOUR: 'it returns false'. Refute it at one input. -/
def calHeatWrong : ChangeSpec := { name := "calHeat", fn := fun _ => fun
  | [d] => { results := [.lit (.bool false)], args := [d] }
  | _ => none }
def CalHeatWrongFalsely : Prop := calHeatRow.holds Try.pinned (OpenSpec.ofChange calHeatWrong)

/-- 'gimballaw10.CalRows': WHATEVER THE INPUT: true; the input reads as it did. -/
def calRowsSpec : ChangeSpec := { name := "calRows", fn := fun _ => fun
  | [d] => { results := [.lit (.bool true)], args := [d] }
  | _ => none }
def calRowsRow : OpenClaim := { program := "ytonelbidndjhdaa", sum := "56708eafa5c3dbf4a5e9473cce69b07ca14b8218570f90719c165c516f6829b3", func := "gimbal/gimballaw10.CalRows", spec := "calRows", inPlace := ["math/bits.Add64", "math/bits.Sub64"], unfollowed := true, recurses := true, named := ["math/bits.divideError", "math/bits.overflowError"], apart := false }
def CalRowsSaid : Prop := calRowsRow.holds Try.pinned (OpenSpec.ofChange calRowsSpec)

/-- ITS FALSE NEIGHBOUR: 'it returns false'. Refute it at one input. -/
def calRowsWrong : ChangeSpec := { name := "calRows", fn := fun _ => fun
  | [d] => { results := [.lit (.bool false)], args := [d] }
  | _ => none }
def CalRowsWrongFalsely : Prop := calRowsRow.holds Try.pinned (OpenSpec.ofChange calRowsWrong)

/-- 'gimballaw10.CalExact': WHATEVER THE INPUT: true; the input reads as it did. -/
def calExactSpec : ChangeSpec := { name := "calExact", fn := fun _ => fun
  | [d] => { results := [.lit (.bool true)], args := [d] }
  | _ => none }
def calExactRow : OpenClaim := { program := "ytonelbidndjhdaa", sum := "56708eafa5c3dbf4a5e9473cce69b07ca14b8218570f90719c165c516f6829b3", func := "gimbal/gimballaw10.CalExact", spec := "calExact", inPlace := ["math/bits.Add64", "math/bits.Sub64"], unfollowed := true, recurses := true, named := ["math/bits.divideError", "math/bits.overflowError"], apart := false }
def CalExactSaid : Prop := calExactRow.holds Try.pinned (OpenSpec.ofChange calExactSpec)

/-- ITS FALSE NEIGHBOUR: 'it returns false'. Refute it at one input. -/
def calExactWrong : ChangeSpec := { name := "calExact", fn := fun _ => fun
  | [d] => { results := [.lit (.bool false)], args := [d] }
  | _ => none }
def CalExactWrongFalsely : Prop := calExactRow.holds Try.pinned (OpenSpec.ofChange calExactWrong)

/-- 'gimballaw18.TapSteady': WHATEVER THE INPUT: true; the input reads as it did. -/
def tapSteadySpec : ChangeSpec := { name := "tapSteady", fn := fun _ => fun
  | [d] => { results := [.lit (.bool true)], args := [d] }
  | _ => none }
def tapSteadyRow : OpenClaim := { program := "ytonelbidndjhdaa", sum := "56708eafa5c3dbf4a5e9473cce69b07ca14b8218570f90719c165c516f6829b3", func := "gimbal/gimballaw18.TapSteady", spec := "tapSteady", inPlace := ["math/bits.Add64", "math/bits.Sub64"], unfollowed := true, recurses := true, named := ["math/bits.divideError", "math/bits.overflowError"], apart := false }
def TapSteadySaid : Prop := tapSteadyRow.holds Try.pinned (OpenSpec.ofChange tapSteadySpec)

/-- ITS FALSE NEIGHBOUR: 'it returns false'. Refute it at one input. -/
def tapSteadyWrong : ChangeSpec := { name := "tapSteady", fn := fun _ => fun
  | [d] => { results := [.lit (.bool false)], args := [d] }
  | _ => none }
def TapSteadyWrongFalsely : Prop := tapSteadyRow.holds Try.pinned (OpenSpec.ofChange tapSteadyWrong)

/-- 'gimballaw18.TapDoubles': WHATEVER THE INPUT: true; the input reads as it did. -/
def tapDoublesSpec : ChangeSpec := { name := "tapDoubles", fn := fun _ => fun
  | [d] => { results := [.lit (.bool true)], args := [d] }
  | _ => none }
def tapDoublesRow : OpenClaim := { program := "ytonelbidndjhdaa", sum := "56708eafa5c3dbf4a5e9473cce69b07ca14b8218570f90719c165c516f6829b3", func := "gimbal/gimballaw18.TapDoubles", spec := "tapDoubles", inPlace := ["math/bits.Add64", "math/bits.Sub64"], unfollowed := true, recurses := true, named := ["math/bits.divideError", "math/bits.overflowError"], apart := false }
def TapDoublesSaid : Prop := tapDoublesRow.holds Try.pinned (OpenSpec.ofChange tapDoublesSpec)

/-- ITS FALSE NEIGHBOUR: 'it returns false'. Refute it at one input. -/
def tapDoublesWrong : ChangeSpec := { name := "tapDoubles", fn := fun _ => fun
  | [d] => { results := [.lit (.bool false)], args := [d] }
  | _ => none }
def TapDoublesWrongFalsely : Prop := tapDoublesRow.holds Try.pinned (OpenSpec.ofChange tapDoublesWrong)

/- THE SECOND FORM. 'bulk': how many values and letters a reading holds, each counted each time it is reached (what is shared counts as often as it is met; a slice's spare places count too). A statement '..UptoSaid' is the law's where the arguments, and the package variables that the reading takes, are together of bulk at most 1048576: NARROWER than '..Said'. Prove '..Said' where nothing that the law and all that it calls make is longer than what came in: it says more and counts as full. Else prove '..UptoSaid'. A law counts once. -/
mutual
def uptoBulk {H : Type} : DataW H → Nat
  | .lit (.string bytes) => bytes.length + 1
  | .lit _ => 1
  | .nil => 1
  | .ptr d => uptoBulk d + 1
  | .slice elems spare => uptoBulkAll elems + uptoBulkAll spare + 1
  | .agg parts => uptoBulkAll parts + 1
  | .iface _ d => uptoBulk d + 1
  | .map entries => uptoBulkEntries entries + 1
  | .held _ => 1
def uptoBulkAll {H : Type} : List (DataW H) → Nat
  | [] => 0
  | d :: r => uptoBulk d + uptoBulkAll r
def uptoBulkEntries {H : Type} : List (Lit × DataW H) → Nat
  | [] => 0
  | x :: r => uptoBulkEntry x + uptoBulkEntries r
def uptoBulkEntry {H : Type} : Lit × DataW H → Nat
  | (.string bytes, d) => bytes.length + uptoBulk d + 1
  | (_, d) => uptoBulk d + 1
 end
def uptoSmall : (H : Type) → List (DataW H) → Bool := fun _ ds => decide (uptoBulkAll ds ≤ 1048576)
def OpenSpec.upto (s : _root_.Go.ChangeSpec) : _root_.Go.OpenSpec := { _root_.Go.OpenSpec.ofChange s with cond := some uptoSmall }

/-- 'gimballaw19.TiltNear', WHERE WHAT IT READS IS OF BULK AT MOST 1048576: true; the input reads as it did. -/
def tiltNearUptoRow : OpenClaim := { program := "ytonelbidndjhdaa", sum := "56708eafa5c3dbf4a5e9473cce69b07ca14b8218570f90719c165c516f6829b3", func := "gimbal/gimballaw19.TiltNear", spec := "tiltNear", inPlace := ["math/bits.Add64", "math/bits.Sub64"], unfollowed := true, recurses := true, named := ["math/bits.divideError", "math/bits.overflowError"], apart := false, narrowed := true }
def TiltNearUptoSaid : Prop := tiltNearUptoRow.holds Try.pinned (OpenSpec.upto tiltNearSpec)

/-- 'gimballaw19.TiltExact', WHERE WHAT IT READS IS OF BULK AT MOST 1048576: true; the input reads as it did. -/
def tiltExactUptoRow : OpenClaim := { program := "ytonelbidndjhdaa", sum := "56708eafa5c3dbf4a5e9473cce69b07ca14b8218570f90719c165c516f6829b3", func := "gimbal/gimballaw19.TiltExact", spec := "tiltExact", inPlace := ["math/bits.Add64", "math/bits.Sub64"], unfollowed := true, recurses := true, named := ["math/bits.divideError", "math/bits.overflowError"], apart := false, narrowed := true }
def TiltExactUptoSaid : Prop := tiltExactUptoRow.holds Try.pinned (OpenSpec.upto tiltExactSpec)

/-- 'gimballaw19.TiltAway', WHERE WHAT IT READS IS OF BULK AT MOST 1048576: true; the input reads as it did. -/
def tiltAwayUptoRow : OpenClaim := { program := "ytonelbidndjhdaa", sum := "56708eafa5c3dbf4a5e9473cce69b07ca14b8218570f90719c165c516f6829b3", func := "gimbal/gimballaw19.TiltAway", spec := "tiltAway", inPlace := ["math/bits.Add64", "math/bits.Sub64"], unfollowed := true, recurses := true, named := ["math/bits.divideError", "math/bits.overflowError"], apart := false, narrowed := true }
def TiltAwayUptoSaid : Prop := tiltAwayUptoRow.holds Try.pinned (OpenSpec.upto tiltAwaySpec)

/-- 'gimballaw10.CalPlain', WHERE WHAT IT READS IS OF BULK AT MOST 1048576: true; the input reads as it did. -/
def calPlainUptoRow : OpenClaim := { program := "ytonelbidndjhdaa", sum := "56708eafa5c3dbf4a5e9473cce69b07ca14b8218570f90719c165c516f6829b3", func := "gimbal/gimballaw10.CalPlain", spec := "calPlain", inPlace := ["math/bits.Add64", "math/bits.Sub64"], unfollowed := true, recurses := true, named := ["math/bits.divideError", "math/bits.overflowError"], apart := false, narrowed := true }
def CalPlainUptoSaid : Prop := calPlainUptoRow.holds Try.pinned (OpenSpec.upto calPlainSpec)

/-- 'gimballaw10.CalHeat', WHERE WHAT IT READS IS OF BULK AT MOST 1048576: true; the input reads as it did. -/
def calHeatUptoRow : OpenClaim := { program := "ytonelbidndjhdaa", sum := "56708eafa5c3dbf4a5e9473cce69b07ca14b8218570f90719c165c516f6829b3", func := "gimbal/gimballaw10.CalHeat", spec := "calHeat", inPlace := ["math/bits.Add64", "math/bits.Sub64"], unfollowed := true, recurses := true, named := ["math/bits.divideError", "math/bits.overflowError"], apart := false, narrowed := true }
def CalHeatUptoSaid : Prop := calHeatUptoRow.holds Try.pinned (OpenSpec.upto calHeatSpec)

/-- 'gimballaw10.CalRows', WHERE WHAT IT READS IS OF BULK AT MOST 1048576: true; the input reads as it did. -/
def calRowsUptoRow : OpenClaim := { program := "ytonelbidndjhdaa", sum := "56708eafa5c3dbf4a5e9473cce69b07ca14b8218570f90719c165c516f6829b3", func := "gimbal/gimballaw10.CalRows", spec := "calRows", inPlace := ["math/bits.Add64", "math/bits.Sub64"], unfollowed := true, recurses := true, named := ["math/bits.divideError", "math/bits.overflowError"], apart := false, narrowed := true }
def CalRowsUptoSaid : Prop := calRowsUptoRow.holds Try.pinned (OpenSpec.upto calRowsSpec)

/-- 'gimballaw10.CalExact', WHERE WHAT IT READS IS OF BULK AT MOST 1048576: true; the input reads as it did. -/
def calExactUptoRow : OpenClaim := { program := "ytonelbidndjhdaa", sum := "56708eafa5c3dbf4a5e9473cce69b07ca14b8218570f90719c165c516f6829b3", func := "gimbal/gimballaw10.CalExact", spec := "calExact", inPlace := ["math/bits.Add64", "math/bits.Sub64"], unfollowed := true, recurses := true, named := ["math/bits.divideError", "math/bits.overflowError"], apart := false, narrowed := true }
def CalExactUptoSaid : Prop := calExactUptoRow.holds Try.pinned (OpenSpec.upto calExactSpec)

/-- 'gimballaw18.TapSteady', WHERE WHAT IT READS IS OF BULK AT MOST 1048576: true; the input reads as it did. -/
def tapSteadyUptoRow : OpenClaim := { program := "ytonelbidndjhdaa", sum := "56708eafa5c3dbf4a5e9473cce69b07ca14b8218570f90719c165c516f6829b3", func := "gimbal/gimballaw18.TapSteady", spec := "tapSteady", inPlace := ["math/bits.Add64", "math/bits.Sub64"], unfollowed := true, recurses := true, named := ["math/bits.divideError", "math/bits.overflowError"], apart := false, narrowed := true }
def TapSteadyUptoSaid : Prop := tapSteadyUptoRow.holds Try.pinned (OpenSpec.upto tapSteadySpec)

/-- 'gimballaw18.TapDoubles', WHERE WHAT IT READS IS OF BULK AT MOST 1048576: true; the input reads as it did. -/
def tapDoublesUptoRow : OpenClaim := { program := "ytonelbidndjhdaa", sum := "56708eafa5c3dbf4a5e9473cce69b07ca14b8218570f90719c165c516f6829b3", func := "gimbal/gimballaw18.TapDoubles", spec := "tapDoubles", inPlace := ["math/bits.Add64", "math/bits.Sub64"], unfollowed := true, recurses := true, named := ["math/bits.divideError", "math/bits.overflowError"], apart := false, narrowed := true }
def TapDoublesUptoSaid : Prop := tapDoublesUptoRow.holds Try.pinned (OpenSpec.upto tapDoublesSpec)

end Rows
end Go.Proofs.Ytonelbidndjhdaa
