/-
  No cell of these rows narrows 'for every input' (looked for: loops, veiled, ifaces, maps, wideKeys, modest, calm, conditions, laid).
  DERIVED. THE GIVEN ROWS OF THIS SEAT. 4 by the template 'for every input the law returns true; each argument reads behind the call as it read before'; 0 by the template 'total and deterministic' (their statements: YtmnkaldemjdcoaaGreatTotals.lean).
  GIVEN WITH THE SEED: the statements are not yours to turn. If you find one false, say at which input.
  Laid BY PROGRAM, IN A SANDBOX (cutbox-rows.mjs): the forced cells as the released guide's own fill.sh prints them over the translation 997cca9a3e25bdb2… (all of the seat's roots in one cut). By AI agents, Wed Nov 11 2026. No macro, syntax, notation, axiom, sorry.
-/
import Derived.Test.YtmnkaldemjdcoaaGreatChecked
import GoSem.Claim
import GoSem.ClaimJoined
import GoSem.ClaimMapViews
import Derived.JoinedTies
import Derived.KernelRfl
namespace Go.Proofs.YtmnkaldemjdcoaaGreat
/- THE CELL 'sum', in the pinned program and in every row, IS THE sha256 OF THE DUMP (.gsa) THAT YtmnkaldemjdcoaaGreatProg.lean LOADS. Nothing in Lean hashes anything: it is a label: what it is worth is what the hold of that sum in a sandbox is worth. -/
noncomputable def Tryz.pinned : Pinned := { name := "ytmnkaldemjdcoaagreat", sum := "997cca9a3e25bdb26fe11eca33937d1cc7e7e4ca952f04037efca1b3b00ab2ea", checked := Tryz.checked }
namespace Rows
def none {H : Type} : Left H := { results := [], args := [] }

/-- 'gimballaw3.VecNumbers': WHATEVER THE INPUT: true; the input reads as it did. -/
def vecNumbersSpec : ChangeSpec := { name := "vecNumbers", fn := fun _ => fun
  | [d] => { results := [.lit (.bool true)], args := [d] }
  | _ => none }
def vecNumbersRow : OpenClaim := { program := "ytmnkaldemjdcoaagreat", sum := "997cca9a3e25bdb26fe11eca33937d1cc7e7e4ca952f04037efca1b3b00ab2ea", func := "gimbal/gimballaw3.VecNumbers", spec := "vecNumbers", inPlace := ["math/bits.Add64", "math/bits.Sub64"], unfollowed := true, recurses := true, named := ["math/bits.divideError", "math/bits.overflowError"], apart := false }
def VecNumbersSaid : Prop := vecNumbersRow.holds Tryz.pinned (OpenSpec.ofChange vecNumbersSpec)

/-- ITS FALSE NEIGHBOUR: 'it returns false'. Refute it at one input. -/
def vecNumbersWrong : ChangeSpec := { name := "vecNumbers", fn := fun _ => fun
  | [d] => { results := [.lit (.bool false)], args := [d] }
  | _ => none }
def VecNumbersWrongFalsely : Prop := vecNumbersRow.holds Tryz.pinned (OpenSpec.ofChange vecNumbersWrong)

/-- 'gimballaw3.VecUnits': WHATEVER THE INPUT: true; the input reads as it did. -/
def vecUnitsSpec : ChangeSpec := { name := "vecUnits", fn := fun _ => fun
  | [d] => { results := [.lit (.bool true)], args := [d] }
  | _ => none }
def vecUnitsRow : OpenClaim := { program := "ytmnkaldemjdcoaagreat", sum := "997cca9a3e25bdb26fe11eca33937d1cc7e7e4ca952f04037efca1b3b00ab2ea", func := "gimbal/gimballaw3.VecUnits", spec := "vecUnits", inPlace := ["math/bits.Add64", "math/bits.Sub64"], unfollowed := true, recurses := true, named := ["math/bits.divideError", "math/bits.overflowError"], apart := false }
def VecUnitsSaid : Prop := vecUnitsRow.holds Tryz.pinned (OpenSpec.ofChange vecUnitsSpec)

/-- ITS FALSE NEIGHBOUR: 'it returns false'. Refute it at one input. -/
def vecUnitsWrong : ChangeSpec := { name := "vecUnits", fn := fun _ => fun
  | [d] => { results := [.lit (.bool false)], args := [d] }
  | _ => none }
def VecUnitsWrongFalsely : Prop := vecUnitsRow.holds Tryz.pinned (OpenSpec.ofChange vecUnitsWrong)

/-- 'gimballaw3.VecImages': WHATEVER THE INPUT: true; the input reads as it did. -/
def vecImagesSpec : ChangeSpec := { name := "vecImages", fn := fun _ => fun
  | [d] => { results := [.lit (.bool true)], args := [d] }
  | _ => none }
def vecImagesRow : OpenClaim := { program := "ytmnkaldemjdcoaagreat", sum := "997cca9a3e25bdb26fe11eca33937d1cc7e7e4ca952f04037efca1b3b00ab2ea", func := "gimbal/gimballaw3.VecImages", spec := "vecImages", inPlace := ["math/bits.Add64", "math/bits.Sub64"], unfollowed := true, recurses := true, named := ["math/bits.divideError", "math/bits.overflowError"], apart := false }
def VecImagesSaid : Prop := vecImagesRow.holds Tryz.pinned (OpenSpec.ofChange vecImagesSpec)

/-- ITS FALSE NEIGHBOUR: 'it returns false'. Refute it at one input. -/
def vecImagesWrong : ChangeSpec := { name := "vecImages", fn := fun _ => fun
  | [d] => { results := [.lit (.bool false)], args := [d] }
  | _ => none }
def VecImagesWrongFalsely : Prop := vecImagesRow.holds Tryz.pinned (OpenSpec.ofChange vecImagesWrong)

/-- 'gimballaw3.VecExact': WHATEVER THE INPUT: true; the input reads as it did. -/
def vecExactSpec : ChangeSpec := { name := "vecExact", fn := fun _ => fun
  | [d] => { results := [.lit (.bool true)], args := [d] }
  | _ => none }
def vecExactRow : OpenClaim := { program := "ytmnkaldemjdcoaagreat", sum := "997cca9a3e25bdb26fe11eca33937d1cc7e7e4ca952f04037efca1b3b00ab2ea", func := "gimbal/gimballaw3.VecExact", spec := "vecExact", inPlace := ["math/bits.Add64", "math/bits.Sub64"], unfollowed := true, recurses := true, named := ["math/bits.divideError", "math/bits.overflowError"], apart := false }
def VecExactSaid : Prop := vecExactRow.holds Tryz.pinned (OpenSpec.ofChange vecExactSpec)

/-- ITS FALSE NEIGHBOUR: 'it returns false'. Refute it at one input. -/
def vecExactWrong : ChangeSpec := { name := "vecExact", fn := fun _ => fun
  | [d] => { results := [.lit (.bool false)], args := [d] }
  | _ => none }
def VecExactWrongFalsely : Prop := vecExactRow.holds Tryz.pinned (OpenSpec.ofChange vecExactWrong)

/- THE SECOND FORM. 'bulk': how many values and letters a reading holds, each counted each time it is reached (what is shared counts as often as it is met; a slice's spare places count too). A statement '..UptoSaid' is the law's where the arguments, and the package variables that the reading takes, are together of bulk at most 1048576: NARROWER than '..Said'. Prove '..Said' where nothing that the law and all that it calls make is longer than what came in: it says more and counts as full. Else prove '..UptoSaid'. A law counts once. -/
mutual
def uptoBulk {H : Type} : DataW H → Nat
  | .lit (.string bytes) => bytes.length + 1
  | .lit _ => 1
  | .nil => 1
  | .ptr d => uptoBulk d + 1
  | .slice elems spare => uptoBulkAll elems + uptoBulkAll spare + 1
  | .agg parts => uptoBulkAll parts + 1
  | .iface _ d => uptoBulk d + 1
  | .map entries => uptoBulkEntries entries + 1
  | .held _ => 1
def uptoBulkAll {H : Type} : List (DataW H) → Nat
  | [] => 0
  | d :: r => uptoBulk d + uptoBulkAll r
def uptoBulkEntries {H : Type} : List (Lit × DataW H) → Nat
  | [] => 0
  | x :: r => uptoBulkEntry x + uptoBulkEntries r
def uptoBulkEntry {H : Type} : Lit × DataW H → Nat
  | (.string bytes, d) => bytes.length + uptoBulk d + 1
  | (_, d) => uptoBulk d + 1
 end
def uptoSmall : (H : Type) → List (DataW H) → Bool := fun _ ds => decide (uptoBulkAll ds ≤ 1048576)
def OpenSpec.upto (s : _root_.Go.ChangeSpec) : _root_.Go.OpenSpec := { _root_.Go.OpenSpec.ofChange s with cond := some uptoSmall }

/-- 'gimballaw3.VecNumbers', WHERE WHAT IT READS IS OF BULK AT MOST 1048576: true; the input reads as it did. -/
def vecNumbersUptoRow : OpenClaim := { program := "ytmnkaldemjdcoaagreat", sum := "997cca9a3e25bdb26fe11eca33937d1cc7e7e4ca952f04037efca1b3b00ab2ea", func := "gimbal/gimballaw3.VecNumbers", spec := "vecNumbers", inPlace := ["math/bits.Add64", "math/bits.Sub64"], unfollowed := true, recurses := true, named := ["math/bits.divideError", "math/bits.overflowError"], apart := false, narrowed := true }
def VecNumbersUptoSaid : Prop := vecNumbersUptoRow.holds Tryz.pinned (OpenSpec.upto vecNumbersSpec)

/-- 'gimballaw3.VecUnits', WHERE WHAT IT READS IS OF BULK AT MOST 1048576: true; the input reads as it did. -/
def vecUnitsUptoRow : OpenClaim := { program := "ytmnkaldemjdcoaagreat", sum := "997cca9a3e25bdb26fe11eca33937d1cc7e7e4ca952f04037efca1b3b00ab2ea", func := "gimbal/gimballaw3.VecUnits", spec := "vecUnits", inPlace := ["math/bits.Add64", "math/bits.Sub64"], unfollowed := true, recurses := true, named := ["math/bits.divideError", "math/bits.overflowError"], apart := false, narrowed := true }
def VecUnitsUptoSaid : Prop := vecUnitsUptoRow.holds Tryz.pinned (OpenSpec.upto vecUnitsSpec)

/-- 'gimballaw3.VecImages', WHERE WHAT IT READS IS OF BULK AT MOST 1048576: true; the input reads as it did. -/
def vecImagesUptoRow : OpenClaim := { program := "ytmnkaldemjdcoaagreat", sum := "997cca9a3e25bdb26fe11eca33937d1cc7e7e4ca952f04037efca1b3b00ab2ea", func := "gimbal/gimballaw3.VecImages", spec := "vecImages", inPlace := ["math/bits.Add64", "math/bits.Sub64"], unfollowed := true, recurses := true, named := ["math/bits.divideError", "math/bits.overflowError"], apart := false, narrowed := true }
def VecImagesUptoSaid : Prop := vecImagesUptoRow.holds Tryz.pinned (OpenSpec.upto vecImagesSpec)

/-- 'gimballaw3.VecExact', WHERE WHAT IT READS IS OF BULK AT MOST 1048576: true; the input reads as it did. -/
def vecExactUptoRow : OpenClaim := { program := "ytmnkaldemjdcoaagreat", sum := "997cca9a3e25bdb26fe11eca33937d1cc7e7e4ca952f04037efca1b3b00ab2ea", func := "gimbal/gimballaw3.VecExact", spec := "vecExact", inPlace := ["math/bits.Add64", "math/bits.Sub64"], unfollowed := true, recurses := true, named := ["math/bits.divideError", "math/bits.overflowError"], apart := false, narrowed := true }
def VecExactUptoSaid : Prop := vecExactUptoRow.holds Tryz.pinned (OpenSpec.upto vecExactSpec)

end Rows
end Go.Proofs.YtmnkaldemjdcoaaGreat
