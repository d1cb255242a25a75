/-
  No cell of these rows narrows 'for every input' (looked for: loops, veiled, ifaces, maps, wideKeys, modest, calm, conditions, laid).
  DERIVED. THE GIVEN ROWS OF THIS SEAT. 12 by the template 'for every input the law returns true; each argument reads behind the call as it read before'; 0 by the template 'total and deterministic' (their statements: YtaeabemipnbgbaaTotals.lean).
  GIVEN WITH THE SEED: the statements are not yours to turn. If you find one false, say at which input.
  Laid BY PROGRAM, IN A SANDBOX (cutbox-rows.mjs): the forced cells as the released guide's own fill.sh prints them over the translation 935b7063a73757f1… (all of the seat's roots in one cut). By AI agents, Wed Nov 11 2026. No macro, syntax, notation, axiom, sorry.
-/
import Derived.Test.YtaeabemipnbgbaaChecked
import GoSem.Claim
import GoSem.ClaimJoined
import GoSem.ClaimMapViews
import Derived.JoinedTies
import Derived.KernelRfl
namespace Go.Proofs.Ytaeabemipnbgbaa
/- THE CELL 'sum', in the pinned program and in every row, IS THE sha256 OF THE DUMP (.gsa) THAT YtaeabemipnbgbaaProg.lean LOADS. Nothing in Lean hashes anything: it is a label: what it is worth is what the hold of that sum in a sandbox is worth. -/
noncomputable def Try.pinned : Pinned := { name := "ytaeabemipnbgbaa", sum := "935b7063a73757f18e4756ab547dae9fc0e97d8cca812f743fd75dcf801c6cf9", checked := Try.checked }
namespace Rows
def none {H : Type} : Left H := { results := [], args := [] }

/-- 'gimballaw25.CmdExact': WHATEVER THE INPUT: true; the input reads as it did. -/
def cmdExactSpec : ChangeSpec := { name := "cmdExact", fn := fun _ => fun
  | [d] => { results := [.lit (.bool true)], args := [d] }
  | _ => none }
def cmdExactRow : OpenClaim := { program := "ytaeabemipnbgbaa", sum := "935b7063a73757f18e4756ab547dae9fc0e97d8cca812f743fd75dcf801c6cf9", func := "gimbal/gimballaw25.CmdExact", spec := "cmdExact", apart := false }
def CmdExactSaid : Prop := cmdExactRow.holds Try.pinned (OpenSpec.ofChange cmdExactSpec)

/-- ITS FALSE NEIGHBOUR: 'it returns false'. Refute it at one input. -/
def cmdExactWrong : ChangeSpec := { name := "cmdExact", fn := fun _ => fun
  | [d] => { results := [.lit (.bool false)], args := [d] }
  | _ => none }
def CmdExactWrongFalsely : Prop := cmdExactRow.holds Try.pinned (OpenSpec.ofChange cmdExactWrong)

/-- 'gimballaw25.CmdSizes': WHATEVER THE INPUT: true; the input reads as it did. -/
def cmdSizesSpec : ChangeSpec := { name := "cmdSizes", fn := fun _ => fun
  | [d] => { results := [.lit (.bool true)], args := [d] }
  | _ => none }
def cmdSizesRow : OpenClaim := { program := "ytaeabemipnbgbaa", sum := "935b7063a73757f18e4756ab547dae9fc0e97d8cca812f743fd75dcf801c6cf9", func := "gimbal/gimballaw25.CmdSizes", spec := "cmdSizes", apart := false }
def CmdSizesSaid : Prop := cmdSizesRow.holds Try.pinned (OpenSpec.ofChange cmdSizesSpec)

/-- ITS FALSE NEIGHBOUR: 'it returns false'. Refute it at one input. -/
def cmdSizesWrong : ChangeSpec := { name := "cmdSizes", fn := fun _ => fun
  | [d] => { results := [.lit (.bool false)], args := [d] }
  | _ => none }
def CmdSizesWrongFalsely : Prop := cmdSizesRow.holds Try.pinned (OpenSpec.ofChange cmdSizesWrong)

/-- 'gimballaw23.FrameExact': WHATEVER THE INPUT: true; the input reads as it did. -/
def frameExactSpec : ChangeSpec := { name := "frameExact", fn := fun _ => fun
  | [d] => { results := [.lit (.bool true)], args := [d] }
  | _ => none }
def frameExactRow : OpenClaim := { program := "ytaeabemipnbgbaa", sum := "935b7063a73757f18e4756ab547dae9fc0e97d8cca812f743fd75dcf801c6cf9", func := "gimbal/gimballaw23.FrameExact", spec := "frameExact", apart := false }
def FrameExactSaid : Prop := frameExactRow.holds Try.pinned (OpenSpec.ofChange frameExactSpec)

/-- ITS FALSE NEIGHBOUR: 'it returns false'. Refute it at one input. -/
def frameExactWrong : ChangeSpec := { name := "frameExact", fn := fun _ => fun
  | [d] => { results := [.lit (.bool false)], args := [d] }
  | _ => none }
def FrameExactWrongFalsely : Prop := frameExactRow.holds Try.pinned (OpenSpec.ofChange frameExactWrong)

/-- 'gimballaw23.FrameBack': WHATEVER THE INPUT: true; the input reads as it did. -/
def frameBackSpec : ChangeSpec := { name := "frameBack", fn := fun _ => fun
  | [d] => { results := [.lit (.bool true)], args := [d] }
  | _ => none }
def frameBackRow : OpenClaim := { program := "ytaeabemipnbgbaa", sum := "935b7063a73757f18e4756ab547dae9fc0e97d8cca812f743fd75dcf801c6cf9", func := "gimbal/gimballaw23.FrameBack", spec := "frameBack", apart := false }
def FrameBackSaid : Prop := frameBackRow.holds Try.pinned (OpenSpec.ofChange frameBackSpec)

/-- ITS FALSE NEIGHBOUR: 'it returns false'. Refute it at one input. -/
def frameBackWrong : ChangeSpec := { name := "frameBack", fn := fun _ => fun
  | [d] => { results := [.lit (.bool false)], args := [d] }
  | _ => none }
def FrameBackWrongFalsely : Prop := frameBackRow.holds Try.pinned (OpenSpec.ofChange frameBackWrong)

/-- 'gimballaw23.FrameBegins': WHATEVER THE INPUT: true; the input reads as it did. -/
def frameBeginsSpec : ChangeSpec := { name := "frameBegins", fn := fun _ => fun
  | [d] => { results := [.lit (.bool true)], args := [d] }
  | _ => none }
def frameBeginsRow : OpenClaim := { program := "ytaeabemipnbgbaa", sum := "935b7063a73757f18e4756ab547dae9fc0e97d8cca812f743fd75dcf801c6cf9", func := "gimbal/gimballaw23.FrameBegins", spec := "frameBegins", apart := false }
def FrameBeginsSaid : Prop := frameBeginsRow.holds Try.pinned (OpenSpec.ofChange frameBeginsSpec)

/-- ITS FALSE NEIGHBOUR: 'it returns false'. Refute it at one input. -/
def frameBeginsWrong : ChangeSpec := { name := "frameBegins", fn := fun _ => fun
  | [d] => { results := [.lit (.bool false)], args := [d] }
  | _ => none }
def FrameBeginsWrongFalsely : Prop := frameBeginsRow.holds Try.pinned (OpenSpec.ofChange frameBeginsWrong)

/-- 'gimballaw25.CmdPacks': WHATEVER THE INPUT: true; the input reads as it did. -/
def cmdPacksSpec : ChangeSpec := { name := "cmdPacks", fn := fun _ => fun
  | [d] => { results := [.lit (.bool true)], args := [d] }
  | _ => none }
def cmdPacksRow : OpenClaim := { program := "ytaeabemipnbgbaa", sum := "935b7063a73757f18e4756ab547dae9fc0e97d8cca812f743fd75dcf801c6cf9", func := "gimbal/gimballaw25.CmdPacks", spec := "cmdPacks", apart := false }
def CmdPacksSaid : Prop := cmdPacksRow.holds Try.pinned (OpenSpec.ofChange cmdPacksSpec)

/-- ITS FALSE NEIGHBOUR: 'it returns false'. Refute it at one input. -/
def cmdPacksWrong : ChangeSpec := { name := "cmdPacks", fn := fun _ => fun
  | [d] => { results := [.lit (.bool false)], args := [d] }
  | _ => none }
def CmdPacksWrongFalsely : Prop := cmdPacksRow.holds Try.pinned (OpenSpec.ofChange cmdPacksWrong)

/-- 'gimballaw24.ScanExact': WHATEVER THE INPUT: true; the input reads as it did. -/
def scanExactSpec : ChangeSpec := { name := "scanExact", fn := fun _ => fun
  | [d] => { results := [.lit (.bool true)], args := [d] }
  | _ => none }
def scanExactRow : OpenClaim := { program := "ytaeabemipnbgbaa", sum := "935b7063a73757f18e4756ab547dae9fc0e97d8cca812f743fd75dcf801c6cf9", func := "gimbal/gimballaw24.ScanExact", spec := "scanExact", apart := false }
def ScanExactSaid : Prop := scanExactRow.holds Try.pinned (OpenSpec.ofChange scanExactSpec)

/-- ITS FALSE NEIGHBOUR: 'it returns false'. Refute it at one input. -/
def scanExactWrong : ChangeSpec := { name := "scanExact", fn := fun _ => fun
  | [d] => { results := [.lit (.bool false)], args := [d] }
  | _ => none }
def ScanExactWrongFalsely : Prop := scanExactRow.holds Try.pinned (OpenSpec.ofChange scanExactWrong)

/-- 'gimballaw24.ScanCuts': WHATEVER THE INPUT: true; the input reads as it did. -/
def scanCutsSpec : ChangeSpec := { name := "scanCuts", fn := fun _ => fun
  | [d] => { results := [.lit (.bool true)], args := [d] }
  | _ => none }
def scanCutsRow : OpenClaim := { program := "ytaeabemipnbgbaa", sum := "935b7063a73757f18e4756ab547dae9fc0e97d8cca812f743fd75dcf801c6cf9", func := "gimbal/gimballaw24.ScanCuts", spec := "scanCuts", apart := false }
def ScanCutsSaid : Prop := scanCutsRow.holds Try.pinned (OpenSpec.ofChange scanCutsSpec)

/-- ITS FALSE NEIGHBOUR: 'it returns false'. Refute it at one input. -/
def scanCutsWrong : ChangeSpec := { name := "scanCuts", fn := fun _ => fun
  | [d] => { results := [.lit (.bool false)], args := [d] }
  | _ => none }
def ScanCutsWrongFalsely : Prop := scanCutsRow.holds Try.pinned (OpenSpec.ofChange scanCutsWrong)

/-- 'gimballaw24.ScanAll': WHATEVER THE INPUT: true; the input reads as it did. -/
def scanAllSpec : ChangeSpec := { name := "scanAll", fn := fun _ => fun
  | [d] => { results := [.lit (.bool true)], args := [d] }
  | _ => none }
def scanAllRow : OpenClaim := { program := "ytaeabemipnbgbaa", sum := "935b7063a73757f18e4756ab547dae9fc0e97d8cca812f743fd75dcf801c6cf9", func := "gimbal/gimballaw24.ScanAll", spec := "scanAll", apart := false }
def ScanAllSaid : Prop := scanAllRow.holds Try.pinned (OpenSpec.ofChange scanAllSpec)

/-- ITS FALSE NEIGHBOUR: 'it returns false'. Refute it at one input. -/
def scanAllWrong : ChangeSpec := { name := "scanAll", fn := fun _ => fun
  | [d] => { results := [.lit (.bool false)], args := [d] }
  | _ => none }
def ScanAllWrongFalsely : Prop := scanAllRow.holds Try.pinned (OpenSpec.ofChange scanAllWrong)

/-- 'gimballaw24.ScanCounts': WHATEVER THE INPUT: true; the input reads as it did. -/
def scanCountsSpec : ChangeSpec := { name := "scanCounts", fn := fun _ => fun
  | [d] => { results := [.lit (.bool true)], args := [d] }
  | _ => none }
def scanCountsRow : OpenClaim := { program := "ytaeabemipnbgbaa", sum := "935b7063a73757f18e4756ab547dae9fc0e97d8cca812f743fd75dcf801c6cf9", func := "gimbal/gimballaw24.ScanCounts", spec := "scanCounts", apart := false }
def ScanCountsSaid : Prop := scanCountsRow.holds Try.pinned (OpenSpec.ofChange scanCountsSpec)

/-- ITS FALSE NEIGHBOUR: 'it returns false'. Refute it at one input. -/
def scanCountsWrong : ChangeSpec := { name := "scanCounts", fn := fun _ => fun
  | [d] => { results := [.lit (.bool false)], args := [d] }
  | _ => none }
def ScanCountsWrongFalsely : Prop := scanCountsRow.holds Try.pinned (OpenSpec.ofChange scanCountsWrong)

/-- 'gimballaw32.LinkNumbers': WHATEVER THE INPUT: true; the input reads as it did. -/
def linkNumbersSpec : ChangeSpec := { name := "linkNumbers", fn := fun _ => fun
  | [d] => { results := [.lit (.bool true)], args := [d] }
  | _ => none }
def linkNumbersRow : OpenClaim := { program := "ytaeabemipnbgbaa", sum := "935b7063a73757f18e4756ab547dae9fc0e97d8cca812f743fd75dcf801c6cf9", func := "gimbal/gimballaw32.LinkNumbers", spec := "linkNumbers", apart := false }
def LinkNumbersSaid : Prop := linkNumbersRow.holds Try.pinned (OpenSpec.ofChange linkNumbersSpec)

/-- ITS FALSE NEIGHBOUR: 'it returns false'. Refute it at one input. -/
def linkNumbersWrong : ChangeSpec := { name := "linkNumbers", fn := fun _ => fun
  | [d] => { results := [.lit (.bool false)], args := [d] }
  | _ => none }
def LinkNumbersWrongFalsely : Prop := linkNumbersRow.holds Try.pinned (OpenSpec.ofChange linkNumbersWrong)

/-- 'gimballaw32.LinkExact': WHATEVER THE INPUT: true; the input reads as it did. -/
def linkExactSpec : ChangeSpec := { name := "linkExact", fn := fun _ => fun
  | [d] => { results := [.lit (.bool true)], args := [d] }
  | _ => none }
def linkExactRow : OpenClaim := { program := "ytaeabemipnbgbaa", sum := "935b7063a73757f18e4756ab547dae9fc0e97d8cca812f743fd75dcf801c6cf9", func := "gimbal/gimballaw32.LinkExact", spec := "linkExact", apart := false }
def LinkExactSaid : Prop := linkExactRow.holds Try.pinned (OpenSpec.ofChange linkExactSpec)

/-- ITS FALSE NEIGHBOUR: 'it returns false'. Refute it at one input. -/
def linkExactWrong : ChangeSpec := { name := "linkExact", fn := fun _ => fun
  | [d] => { results := [.lit (.bool false)], args := [d] }
  | _ => none }
def LinkExactWrongFalsely : Prop := linkExactRow.holds Try.pinned (OpenSpec.ofChange linkExactWrong)

/- THE SECOND FORM. 'bulk': how many values and letters a reading holds, each counted each time it is reached (what is shared counts as often as it is met; a slice's spare places count too). A statement '..UptoSaid' is the law's where the arguments, and the package variables that the reading takes, are together of bulk at most 1048576: NARROWER than '..Said'. Prove '..Said' where nothing that the law and all that it calls make is longer than what came in: it says more and counts as full. Else prove '..UptoSaid'. A law counts once. -/
mutual
def uptoBulk {H : Type} : DataW H → Nat
  | .lit (.string bytes) => bytes.length + 1
  | .lit _ => 1
  | .nil => 1
  | .ptr d => uptoBulk d + 1
  | .slice elems spare => uptoBulkAll elems + uptoBulkAll spare + 1
  | .agg parts => uptoBulkAll parts + 1
  | .iface _ d => uptoBulk d + 1
  | .map entries => uptoBulkEntries entries + 1
  | .held _ => 1
def uptoBulkAll {H : Type} : List (DataW H) → Nat
  | [] => 0
  | d :: r => uptoBulk d + uptoBulkAll r
def uptoBulkEntries {H : Type} : List (Lit × DataW H) → Nat
  | [] => 0
  | x :: r => uptoBulkEntry x + uptoBulkEntries r
def uptoBulkEntry {H : Type} : Lit × DataW H → Nat
  | (.string bytes, d) => bytes.length + uptoBulk d + 1
  | (_, d) => uptoBulk d + 1
 end
def uptoSmall : (H : Type) → List (DataW H) → Bool := fun _ ds => decide (uptoBulkAll ds ≤ 1048576)
def OpenSpec.upto (s : _root_.Go.ChangeSpec) : _root_.Go.OpenSpec := { _root_.Go.OpenSpec.ofChange s with cond := some uptoSmall }

/-- 'gimballaw25.CmdExact', WHERE WHAT IT READS IS OF BULK AT MOST 1048576: true; the input reads as it did. -/
def cmdExactUptoRow : OpenClaim := { program := "ytaeabemipnbgbaa", sum := "935b7063a73757f18e4756ab547dae9fc0e97d8cca812f743fd75dcf801c6cf9", func := "gimbal/gimballaw25.CmdExact", spec := "cmdExact", apart := false, narrowed := true }
def CmdExactUptoSaid : Prop := cmdExactUptoRow.holds Try.pinned (OpenSpec.upto cmdExactSpec)

/-- 'gimballaw25.CmdSizes', WHERE WHAT IT READS IS OF BULK AT MOST 1048576: true; the input reads as it did. -/
def cmdSizesUptoRow : OpenClaim := { program := "ytaeabemipnbgbaa", sum := "935b7063a73757f18e4756ab547dae9fc0e97d8cca812f743fd75dcf801c6cf9", func := "gimbal/gimballaw25.CmdSizes", spec := "cmdSizes", apart := false, narrowed := true }
def CmdSizesUptoSaid : Prop := cmdSizesUptoRow.holds Try.pinned (OpenSpec.upto cmdSizesSpec)

/-- 'gimballaw23.FrameExact', WHERE WHAT IT READS IS OF BULK AT MOST 1048576: true; the input reads as it did. -/
def frameExactUptoRow : OpenClaim := { program := "ytaeabemipnbgbaa", sum := "935b7063a73757f18e4756ab547dae9fc0e97d8cca812f743fd75dcf801c6cf9", func := "gimbal/gimballaw23.FrameExact", spec := "frameExact", apart := false, narrowed := true }
def FrameExactUptoSaid : Prop := frameExactUptoRow.holds Try.pinned (OpenSpec.upto frameExactSpec)

/-- 'gimballaw23.FrameBack', WHERE WHAT IT READS IS OF BULK AT MOST 1048576: true; the input reads as it did. -/
def frameBackUptoRow : OpenClaim := { program := "ytaeabemipnbgbaa", sum := "935b7063a73757f18e4756ab547dae9fc0e97d8cca812f743fd75dcf801c6cf9", func := "gimbal/gimballaw23.FrameBack", spec := "frameBack", apart := false, narrowed := true }
def FrameBackUptoSaid : Prop := frameBackUptoRow.holds Try.pinned (OpenSpec.upto frameBackSpec)

/-- 'gimballaw23.FrameBegins', WHERE WHAT IT READS IS OF BULK AT MOST 1048576: true; the input reads as it did. -/
def frameBeginsUptoRow : OpenClaim := { program := "ytaeabemipnbgbaa", sum := "935b7063a73757f18e4756ab547dae9fc0e97d8cca812f743fd75dcf801c6cf9", func := "gimbal/gimballaw23.FrameBegins", spec := "frameBegins", apart := false, narrowed := true }
def FrameBeginsUptoSaid : Prop := frameBeginsUptoRow.holds Try.pinned (OpenSpec.upto frameBeginsSpec)

/-- 'gimballaw25.CmdPacks', WHERE WHAT IT READS IS OF BULK AT MOST 1048576: true; the input reads as it did. -/
def cmdPacksUptoRow : OpenClaim := { program := "ytaeabemipnbgbaa", sum := "935b7063a73757f18e4756ab547dae9fc0e97d8cca812f743fd75dcf801c6cf9", func := "gimbal/gimballaw25.CmdPacks", spec := "cmdPacks", apart := false, narrowed := true }
def CmdPacksUptoSaid : Prop := cmdPacksUptoRow.holds Try.pinned (OpenSpec.upto cmdPacksSpec)

/-- 'gimballaw24.ScanExact', WHERE WHAT IT READS IS OF BULK AT MOST 1048576: true; the input reads as it did. -/
def scanExactUptoRow : OpenClaim := { program := "ytaeabemipnbgbaa", sum := "935b7063a73757f18e4756ab547dae9fc0e97d8cca812f743fd75dcf801c6cf9", func := "gimbal/gimballaw24.ScanExact", spec := "scanExact", apart := false, narrowed := true }
def ScanExactUptoSaid : Prop := scanExactUptoRow.holds Try.pinned (OpenSpec.upto scanExactSpec)

/-- 'gimballaw24.ScanCuts', WHERE WHAT IT READS IS OF BULK AT MOST 1048576: true; the input reads as it did. -/
def scanCutsUptoRow : OpenClaim := { program := "ytaeabemipnbgbaa", sum := "935b7063a73757f18e4756ab547dae9fc0e97d8cca812f743fd75dcf801c6cf9", func := "gimbal/gimballaw24.ScanCuts", spec := "scanCuts", apart := false, narrowed := true }
def ScanCutsUptoSaid : Prop := scanCutsUptoRow.holds Try.pinned (OpenSpec.upto scanCutsSpec)

/-- 'gimballaw24.ScanAll', WHERE WHAT IT READS IS OF BULK AT MOST 1048576: true; the input reads as it did. -/
def scanAllUptoRow : OpenClaim := { program := "ytaeabemipnbgbaa", sum := "935b7063a73757f18e4756ab547dae9fc0e97d8cca812f743fd75dcf801c6cf9", func := "gimbal/gimballaw24.ScanAll", spec := "scanAll", apart := false, narrowed := true }
def ScanAllUptoSaid : Prop := scanAllUptoRow.holds Try.pinned (OpenSpec.upto scanAllSpec)

/-- 'gimballaw24.ScanCounts', WHERE WHAT IT READS IS OF BULK AT MOST 1048576: true; the input reads as it did. -/
def scanCountsUptoRow : OpenClaim := { program := "ytaeabemipnbgbaa", sum := "935b7063a73757f18e4756ab547dae9fc0e97d8cca812f743fd75dcf801c6cf9", func := "gimbal/gimballaw24.ScanCounts", spec := "scanCounts", apart := false, narrowed := true }
def ScanCountsUptoSaid : Prop := scanCountsUptoRow.holds Try.pinned (OpenSpec.upto scanCountsSpec)

/-- 'gimballaw32.LinkNumbers', WHERE WHAT IT READS IS OF BULK AT MOST 1048576: true; the input reads as it did. -/
def linkNumbersUptoRow : OpenClaim := { program := "ytaeabemipnbgbaa", sum := "935b7063a73757f18e4756ab547dae9fc0e97d8cca812f743fd75dcf801c6cf9", func := "gimbal/gimballaw32.LinkNumbers", spec := "linkNumbers", apart := false, narrowed := true }
def LinkNumbersUptoSaid : Prop := linkNumbersUptoRow.holds Try.pinned (OpenSpec.upto linkNumbersSpec)

/-- 'gimballaw32.LinkExact', WHERE WHAT IT READS IS OF BULK AT MOST 1048576: true; the input reads as it did. -/
def linkExactUptoRow : OpenClaim := { program := "ytaeabemipnbgbaa", sum := "935b7063a73757f18e4756ab547dae9fc0e97d8cca812f743fd75dcf801c6cf9", func := "gimbal/gimballaw32.LinkExact", spec := "linkExact", apart := false, narrowed := true }
def LinkExactUptoSaid : Prop := linkExactUptoRow.holds Try.pinned (OpenSpec.upto linkExactSpec)

end Rows
end Go.Proofs.Ytaeabemipnbgbaa
