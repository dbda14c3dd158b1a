/-
  NARROWER THAN 'FOR EVERY INPUT', by the rows' own cells (each row's printed sentence says how): WorkFresh: loops · WorkPlays: loops · WorkMakes: loops · TrailerReads: loops · TrailerBack: loops · ValueChecks: loops · ValuePlains: loops · ValueGets: loops · ValueLinks: loops · ValueTwice: loops · ReachTells: loops · ReachClosed: loops · ReachSwept: loops.
  DERIVED. THE GIVEN ROWS OF THIS SEAT. 14 by the template 'for every input the law returns true; each argument reads behind the call as it read before'; 0 by the template 'total and deterministic' (their statements: YtogpnkkoablmiaaTotals.lean).
  GIVEN WITH THE SEED: the statements are not yours to turn. If you find one false, say at which input.
  Laid BY PROGRAM, IN A SANDBOX (cutbox-rows.mjs): the forced cells as the released guide's own fill.sh prints them over the translation 098ad405d4795f58… (all of the seat's roots in one cut). By AI agents, Wed Nov 11 2026. No macro, syntax, notation, axiom, sorry.
-/
import Derived.Test.YtogpnkkoablmiaaChecked
import GoSem.Claim
import GoSem.ClaimJoined
import GoSem.ClaimMapViews
import Derived.JoinedTies
import Derived.KernelRfl
namespace Go.Proofs.Ytogpnkkoablmiaa
/- THE CELL 'sum', in the pinned program and in every row, IS THE sha256 OF THE DUMP (.gsa) THAT YtogpnkkoablmiaaProg.lean LOADS. Nothing in Lean hashes anything: it is a label: what it is worth is what the hold of that sum in a sandbox is worth. -/
noncomputable def Try.pinned : Pinned := { name := "ytogpnkkoablmiaa", sum := "098ad405d4795f582415e3e51f7f2c81960e21ee08e4575a7eac2a60f0f06e69", checked := Try.checked }
namespace Rows
def none {H : Type} : Left H := { results := [], args := [] }

/-- 'binderylaw33.WorkFresh': WHATEVER THE INPUT: true; the input reads as it did. -/
def workFreshSpec : ChangeSpec := { name := "workFresh", fn := fun _ => fun
  | [d] => { results := [.lit (.bool true)], args := [d] }
  | _ => none }
def workFreshRow : OpenClaim := { program := "ytogpnkkoablmiaa", sum := "098ad405d4795f582415e3e51f7f2c81960e21ee08e4575a7eac2a60f0f06e69", func := "bindery/binderylaw33.WorkFresh", spec := "workFresh", inPlace := ["internal/bytealg.IndexByteString"], unfollowed := true, recurses := true, loops := true, apart := false }
def WorkFreshSaid : Prop := workFreshRow.holds Try.pinned (OpenSpec.ofChange workFreshSpec)

/-- ITS FALSE NEIGHBOUR: 'it returns false'. Refute it at one input. -/
def workFreshWrong : ChangeSpec := { name := "workFresh", fn := fun _ => fun
  | [d] => { results := [.lit (.bool false)], args := [d] }
  | _ => none }
def WorkFreshWrongFalsely : Prop := workFreshRow.holds Try.pinned (OpenSpec.ofChange workFreshWrong)

/-- 'binderylaw33.WorkPlays': WHATEVER THE INPUT: true; the input reads as it did. -/
def workPlaysSpec : ChangeSpec := { name := "workPlays", fn := fun _ => fun
  | [d1, d2, d3, d4] => { results := [.lit (.bool true)], args := [d1, d2, d3, d4] }
  | _ => none }
def workPlaysRow : OpenClaim := { program := "ytogpnkkoablmiaa", sum := "098ad405d4795f582415e3e51f7f2c81960e21ee08e4575a7eac2a60f0f06e69", func := "bindery/binderylaw33.WorkPlays", spec := "workPlays", inPlace := ["internal/bytealg.IndexByteString"], unfollowed := true, recurses := true, loops := true, apart := false }
def WorkPlaysSaid : Prop := workPlaysRow.holds Try.pinned (OpenSpec.ofChange workPlaysSpec)

/-- ITS FALSE NEIGHBOUR: 'it returns false'. Refute it at one input. -/
def workPlaysWrong : ChangeSpec := { name := "workPlays", fn := fun _ => fun
  | [d1, d2, d3, d4] => { results := [.lit (.bool false)], args := [d1, d2, d3, d4] }
  | _ => none }
def WorkPlaysWrongFalsely : Prop := workPlaysRow.holds Try.pinned (OpenSpec.ofChange workPlaysWrong)

/-- 'binderylaw33.WorkMakes': WHATEVER THE INPUT: true; the input reads as it did. -/
def workMakesSpec : ChangeSpec := { name := "workMakes", fn := fun _ => fun
  | [d1, d2, d3] => { results := [.lit (.bool true)], args := [d1, d2, d3] }
  | _ => none }
def workMakesRow : OpenClaim := { program := "ytogpnkkoablmiaa", sum := "098ad405d4795f582415e3e51f7f2c81960e21ee08e4575a7eac2a60f0f06e69", func := "bindery/binderylaw33.WorkMakes", spec := "workMakes", inPlace := ["internal/bytealg.IndexByteString"], unfollowed := true, recurses := true, loops := true, apart := false }
def WorkMakesSaid : Prop := workMakesRow.holds Try.pinned (OpenSpec.ofChange workMakesSpec)

/-- ITS FALSE NEIGHBOUR: 'it returns false'. Refute it at one input. -/
def workMakesWrong : ChangeSpec := { name := "workMakes", fn := fun _ => fun
  | [d1, d2, d3] => { results := [.lit (.bool false)], args := [d1, d2, d3] }
  | _ => none }
def WorkMakesWrongFalsely : Prop := workMakesRow.holds Try.pinned (OpenSpec.ofChange workMakesWrong)

/-- 'binderylaw24.TrailerTells': WHATEVER THE INPUT: true; the input reads as it did. -/
def trailerTellsSpec : ChangeSpec := { name := "trailerTells", fn := fun _ => fun
  | [d] => { results := [.lit (.bool true)], args := [d] }
  | _ => none }
def trailerTellsRow : OpenClaim := { program := "ytogpnkkoablmiaa", sum := "098ad405d4795f582415e3e51f7f2c81960e21ee08e4575a7eac2a60f0f06e69", func := "bindery/binderylaw24.TrailerTells", spec := "trailerTells", inPlace := ["slices.overlaps[bindery/api.Pair]"], unfollowed := true, recurses := true, apart := false }
def TrailerTellsSaid : Prop := trailerTellsRow.holds Try.pinned (OpenSpec.ofChange trailerTellsSpec)

/-- ITS FALSE NEIGHBOUR: 'it returns false'. Refute it at one input. -/
def trailerTellsWrong : ChangeSpec := { name := "trailerTells", fn := fun _ => fun
  | [d] => { results := [.lit (.bool false)], args := [d] }
  | _ => none }
def TrailerTellsWrongFalsely : Prop := trailerTellsRow.holds Try.pinned (OpenSpec.ofChange trailerTellsWrong)

/-- 'binderylaw24.TrailerReads': WHATEVER THE INPUT: true; the input reads as it did. -/
def trailerReadsSpec : ChangeSpec := { name := "trailerReads", fn := fun _ => fun
  | [d] => { results := [.lit (.bool true)], args := [d] }
  | _ => none }
def trailerReadsRow : OpenClaim := { program := "ytogpnkkoablmiaa", sum := "098ad405d4795f582415e3e51f7f2c81960e21ee08e4575a7eac2a60f0f06e69", func := "bindery/binderylaw24.TrailerReads", spec := "trailerReads", inPlace := ["slices.overlaps[bindery/api.Pair]"], unfollowed := true, recurses := true, loops := true, apart := false }
def TrailerReadsSaid : Prop := trailerReadsRow.holds Try.pinned (OpenSpec.ofChange trailerReadsSpec)

/-- ITS FALSE NEIGHBOUR: 'it returns false'. Refute it at one input. -/
def trailerReadsWrong : ChangeSpec := { name := "trailerReads", fn := fun _ => fun
  | [d] => { results := [.lit (.bool false)], args := [d] }
  | _ => none }
def TrailerReadsWrongFalsely : Prop := trailerReadsRow.holds Try.pinned (OpenSpec.ofChange trailerReadsWrong)

/-- 'binderylaw24.TrailerBack': WHATEVER THE INPUT: true; the input reads as it did. -/
def trailerBackSpec : ChangeSpec := { name := "trailerBack", fn := fun _ => fun
  | [d1, d2, d3] => { results := [.lit (.bool true)], args := [d1, d2, d3] }
  | _ => none }
def trailerBackRow : OpenClaim := { program := "ytogpnkkoablmiaa", sum := "098ad405d4795f582415e3e51f7f2c81960e21ee08e4575a7eac2a60f0f06e69", func := "bindery/binderylaw24.TrailerBack", spec := "trailerBack", inPlace := ["slices.overlaps[bindery/api.Pair]"], unfollowed := true, recurses := true, loops := true, apart := false }
def TrailerBackSaid : Prop := trailerBackRow.holds Try.pinned (OpenSpec.ofChange trailerBackSpec)

/-- ITS FALSE NEIGHBOUR: 'it returns false'. Refute it at one input. -/
def trailerBackWrong : ChangeSpec := { name := "trailerBack", fn := fun _ => fun
  | [d1, d2, d3] => { results := [.lit (.bool false)], args := [d1, d2, d3] }
  | _ => none }
def TrailerBackWrongFalsely : Prop := trailerBackRow.holds Try.pinned (OpenSpec.ofChange trailerBackWrong)

/-- 'binderylaw16.ValueChecks': WHATEVER THE INPUT: true; the input reads as it did. -/
def valueChecksSpec : ChangeSpec := { name := "valueChecks", fn := fun _ => fun
  | [d1, d2] => { results := [.lit (.bool true)], args := [d1, d2] }
  | _ => none }
def valueChecksRow : OpenClaim := { program := "ytogpnkkoablmiaa", sum := "098ad405d4795f582415e3e51f7f2c81960e21ee08e4575a7eac2a60f0f06e69", func := "bindery/binderylaw16.ValueChecks", spec := "valueChecks", inPlace := ["slices.overlaps[bindery/api.Pair]", "internal/bytealg.IndexByteString"], unfollowed := true, recurses := true, loops := true, apart := false }
def ValueChecksSaid : Prop := valueChecksRow.holds Try.pinned (OpenSpec.ofChange valueChecksSpec)

/-- ITS FALSE NEIGHBOUR: 'it returns false'. Refute it at one input. -/
def valueChecksWrong : ChangeSpec := { name := "valueChecks", fn := fun _ => fun
  | [d1, d2] => { results := [.lit (.bool false)], args := [d1, d2] }
  | _ => none }
def ValueChecksWrongFalsely : Prop := valueChecksRow.holds Try.pinned (OpenSpec.ofChange valueChecksWrong)

/-- 'binderylaw16.ValuePlains': WHATEVER THE INPUT: true; the input reads as it did. -/
def valuePlainsSpec : ChangeSpec := { name := "valuePlains", fn := fun _ => fun
  | [d1, d2] => { results := [.lit (.bool true)], args := [d1, d2] }
  | _ => none }
def valuePlainsRow : OpenClaim := { program := "ytogpnkkoablmiaa", sum := "098ad405d4795f582415e3e51f7f2c81960e21ee08e4575a7eac2a60f0f06e69", func := "bindery/binderylaw16.ValuePlains", spec := "valuePlains", inPlace := ["slices.overlaps[bindery/api.Pair]", "internal/bytealg.IndexByteString"], unfollowed := true, recurses := true, loops := true, apart := false }
def ValuePlainsSaid : Prop := valuePlainsRow.holds Try.pinned (OpenSpec.ofChange valuePlainsSpec)

/-- ITS FALSE NEIGHBOUR: 'it returns false'. Refute it at one input. -/
def valuePlainsWrong : ChangeSpec := { name := "valuePlains", fn := fun _ => fun
  | [d1, d2] => { results := [.lit (.bool false)], args := [d1, d2] }
  | _ => none }
def ValuePlainsWrongFalsely : Prop := valuePlainsRow.holds Try.pinned (OpenSpec.ofChange valuePlainsWrong)

/-- 'binderylaw16.ValueGets': WHATEVER THE INPUT: true; the input reads as it did. -/
def valueGetsSpec : ChangeSpec := { name := "valueGets", fn := fun _ => fun
  | [d1, d2, d3] => { results := [.lit (.bool true)], args := [d1, d2, d3] }
  | _ => none }
def valueGetsRow : OpenClaim := { program := "ytogpnkkoablmiaa", sum := "098ad405d4795f582415e3e51f7f2c81960e21ee08e4575a7eac2a60f0f06e69", func := "bindery/binderylaw16.ValueGets", spec := "valueGets", inPlace := ["slices.overlaps[bindery/api.Pair]", "internal/bytealg.IndexByteString"], unfollowed := true, recurses := true, loops := true, apart := false }
def ValueGetsSaid : Prop := valueGetsRow.holds Try.pinned (OpenSpec.ofChange valueGetsSpec)

/-- ITS FALSE NEIGHBOUR: 'it returns false'. Refute it at one input. -/
def valueGetsWrong : ChangeSpec := { name := "valueGets", fn := fun _ => fun
  | [d1, d2, d3] => { results := [.lit (.bool false)], args := [d1, d2, d3] }
  | _ => none }
def ValueGetsWrongFalsely : Prop := valueGetsRow.holds Try.pinned (OpenSpec.ofChange valueGetsWrong)

/-- 'binderylaw16.ValueLinks': WHATEVER THE INPUT: true; the input reads as it did. -/
def valueLinksSpec : ChangeSpec := { name := "valueLinks", fn := fun _ => fun
  | [d1, d2] => { results := [.lit (.bool true)], args := [d1, d2] }
  | _ => none }
def valueLinksRow : OpenClaim := { program := "ytogpnkkoablmiaa", sum := "098ad405d4795f582415e3e51f7f2c81960e21ee08e4575a7eac2a60f0f06e69", func := "bindery/binderylaw16.ValueLinks", spec := "valueLinks", inPlace := ["slices.overlaps[bindery/api.Pair]", "internal/bytealg.IndexByteString"], unfollowed := true, recurses := true, loops := true, apart := false }
def ValueLinksSaid : Prop := valueLinksRow.holds Try.pinned (OpenSpec.ofChange valueLinksSpec)

/-- ITS FALSE NEIGHBOUR: 'it returns false'. Refute it at one input. -/
def valueLinksWrong : ChangeSpec := { name := "valueLinks", fn := fun _ => fun
  | [d1, d2] => { results := [.lit (.bool false)], args := [d1, d2] }
  | _ => none }
def ValueLinksWrongFalsely : Prop := valueLinksRow.holds Try.pinned (OpenSpec.ofChange valueLinksWrong)

/-- 'binderylaw16.ValueTwice': WHATEVER THE INPUT: true; the input reads as it did. -/
def valueTwiceSpec : ChangeSpec := { name := "valueTwice", fn := fun _ => fun
  | [d1, d2, d3, d4] => { results := [.lit (.bool true)], args := [d1, d2, d3, d4] }
  | _ => none }
def valueTwiceRow : OpenClaim := { program := "ytogpnkkoablmiaa", sum := "098ad405d4795f582415e3e51f7f2c81960e21ee08e4575a7eac2a60f0f06e69", func := "bindery/binderylaw16.ValueTwice", spec := "valueTwice", inPlace := ["slices.overlaps[bindery/api.Pair]", "internal/bytealg.IndexByteString"], unfollowed := true, recurses := true, loops := true, apart := false }
def ValueTwiceSaid : Prop := valueTwiceRow.holds Try.pinned (OpenSpec.ofChange valueTwiceSpec)

/-- ITS FALSE NEIGHBOUR: 'it returns false'. Refute it at one input. -/
def valueTwiceWrong : ChangeSpec := { name := "valueTwice", fn := fun _ => fun
  | [d1, d2, d3, d4] => { results := [.lit (.bool false)], args := [d1, d2, d3, d4] }
  | _ => none }
def ValueTwiceWrongFalsely : Prop := valueTwiceRow.holds Try.pinned (OpenSpec.ofChange valueTwiceWrong)

/-- 'binderylaw34.ReachTells': WHATEVER THE INPUT: true; the input reads as it did. -/
def reachTellsSpec : ChangeSpec := { name := "reachTells", fn := fun _ => fun
  | [d1, d2] => { results := [.lit (.bool true)], args := [d1, d2] }
  | _ => none }
def reachTellsRow : OpenClaim := { program := "ytogpnkkoablmiaa", sum := "098ad405d4795f582415e3e51f7f2c81960e21ee08e4575a7eac2a60f0f06e69", func := "bindery/binderylaw34.ReachTells", spec := "reachTells", unfollowed := true, recurses := true, loops := true, apart := false }
def ReachTellsSaid : Prop := reachTellsRow.holds Try.pinned (OpenSpec.ofChange reachTellsSpec)

/-- ITS FALSE NEIGHBOUR: 'it returns false'. Refute it at one input. -/
def reachTellsWrong : ChangeSpec := { name := "reachTells", fn := fun _ => fun
  | [d1, d2] => { results := [.lit (.bool false)], args := [d1, d2] }
  | _ => none }
def ReachTellsWrongFalsely : Prop := reachTellsRow.holds Try.pinned (OpenSpec.ofChange reachTellsWrong)

/-- 'binderylaw34.ReachClosed': WHATEVER THE INPUT: true; the input reads as it did. -/
def reachClosedSpec : ChangeSpec := { name := "reachClosed", fn := fun _ => fun
  | [d1, d2] => { results := [.lit (.bool true)], args := [d1, d2] }
  | _ => none }
def reachClosedRow : OpenClaim := { program := "ytogpnkkoablmiaa", sum := "098ad405d4795f582415e3e51f7f2c81960e21ee08e4575a7eac2a60f0f06e69", func := "bindery/binderylaw34.ReachClosed", spec := "reachClosed", unfollowed := true, recurses := true, loops := true, apart := false }
def ReachClosedSaid : Prop := reachClosedRow.holds Try.pinned (OpenSpec.ofChange reachClosedSpec)

/-- ITS FALSE NEIGHBOUR: 'it returns false'. Refute it at one input. -/
def reachClosedWrong : ChangeSpec := { name := "reachClosed", fn := fun _ => fun
  | [d1, d2] => { results := [.lit (.bool false)], args := [d1, d2] }
  | _ => none }
def ReachClosedWrongFalsely : Prop := reachClosedRow.holds Try.pinned (OpenSpec.ofChange reachClosedWrong)

/-- 'binderylaw34.ReachSwept': WHATEVER THE INPUT: true; the input reads as it did. -/
def reachSweptSpec : ChangeSpec := { name := "reachSwept", fn := fun _ => fun
  | [d1, d2] => { results := [.lit (.bool true)], args := [d1, d2] }
  | _ => none }
def reachSweptRow : OpenClaim := { program := "ytogpnkkoablmiaa", sum := "098ad405d4795f582415e3e51f7f2c81960e21ee08e4575a7eac2a60f0f06e69", func := "bindery/binderylaw34.ReachSwept", spec := "reachSwept", unfollowed := true, recurses := true, loops := true, apart := false }
def ReachSweptSaid : Prop := reachSweptRow.holds Try.pinned (OpenSpec.ofChange reachSweptSpec)

/-- ITS FALSE NEIGHBOUR: 'it returns false'. Refute it at one input. -/
def reachSweptWrong : ChangeSpec := { name := "reachSwept", fn := fun _ => fun
  | [d1, d2] => { results := [.lit (.bool false)], args := [d1, d2] }
  | _ => none }
def ReachSweptWrongFalsely : Prop := reachSweptRow.holds Try.pinned (OpenSpec.ofChange reachSweptWrong)

/- THE SECOND FORM. 'bulk': how many values and letters a reading holds, each counted each time it is reached (what is shared counts as often as it is met; a slice's spare places count too). A statement '..UptoSaid' is the law's where the arguments, and the package variables that the reading takes, are together of bulk at most 1048576: NARROWER than '..Said'. Prove '..Said' where nothing that the law and all that it calls make is longer than what came in: it says more and counts as full. Else prove '..UptoSaid'. A law counts once. -/
mutual
def uptoBulk {H : Type} : DataW H → Nat
  | .lit (.string bytes) => bytes.length + 1
  | .lit _ => 1
  | .nil => 1
  | .ptr d => uptoBulk d + 1
  | .slice elems spare => uptoBulkAll elems + uptoBulkAll spare + 1
  | .agg parts => uptoBulkAll parts + 1
  | .iface _ d => uptoBulk d + 1
  | .map entries => uptoBulkEntries entries + 1
  | .held _ => 1
def uptoBulkAll {H : Type} : List (DataW H) → Nat
  | [] => 0
  | d :: r => uptoBulk d + uptoBulkAll r
def uptoBulkEntries {H : Type} : List (Lit × DataW H) → Nat
  | [] => 0
  | x :: r => uptoBulkEntry x + uptoBulkEntries r
def uptoBulkEntry {H : Type} : Lit × DataW H → Nat
  | (.string bytes, d) => bytes.length + uptoBulk d + 1
  | (_, d) => uptoBulk d + 1
 end
def uptoSmall : (H : Type) → List (DataW H) → Bool := fun _ ds => decide (uptoBulkAll ds ≤ 1048576)
def OpenSpec.upto (s : _root_.Go.ChangeSpec) : _root_.Go.OpenSpec := { _root_.Go.OpenSpec.ofChange s with cond := some uptoSmall }

/-- 'binderylaw33.WorkFresh', WHERE WHAT IT READS IS OF BULK AT MOST 1048576: true; the input reads as it did. -/
def workFreshUptoRow : OpenClaim := { program := "ytogpnkkoablmiaa", sum := "098ad405d4795f582415e3e51f7f2c81960e21ee08e4575a7eac2a60f0f06e69", func := "bindery/binderylaw33.WorkFresh", spec := "workFresh", inPlace := ["internal/bytealg.IndexByteString"], unfollowed := true, recurses := true, loops := true, apart := false, narrowed := true }
def WorkFreshUptoSaid : Prop := workFreshUptoRow.holds Try.pinned (OpenSpec.upto workFreshSpec)

/-- 'binderylaw33.WorkPlays', WHERE WHAT IT READS IS OF BULK AT MOST 1048576: true; the input reads as it did. -/
def workPlaysUptoRow : OpenClaim := { program := "ytogpnkkoablmiaa", sum := "098ad405d4795f582415e3e51f7f2c81960e21ee08e4575a7eac2a60f0f06e69", func := "bindery/binderylaw33.WorkPlays", spec := "workPlays", inPlace := ["internal/bytealg.IndexByteString"], unfollowed := true, recurses := true, loops := true, apart := false, narrowed := true }
def WorkPlaysUptoSaid : Prop := workPlaysUptoRow.holds Try.pinned (OpenSpec.upto workPlaysSpec)

/-- 'binderylaw33.WorkMakes', WHERE WHAT IT READS IS OF BULK AT MOST 1048576: true; the input reads as it did. -/
def workMakesUptoRow : OpenClaim := { program := "ytogpnkkoablmiaa", sum := "098ad405d4795f582415e3e51f7f2c81960e21ee08e4575a7eac2a60f0f06e69", func := "bindery/binderylaw33.WorkMakes", spec := "workMakes", inPlace := ["internal/bytealg.IndexByteString"], unfollowed := true, recurses := true, loops := true, apart := false, narrowed := true }
def WorkMakesUptoSaid : Prop := workMakesUptoRow.holds Try.pinned (OpenSpec.upto workMakesSpec)

/-- 'binderylaw24.TrailerTells', WHERE WHAT IT READS IS OF BULK AT MOST 1048576: true; the input reads as it did. -/
def trailerTellsUptoRow : OpenClaim := { program := "ytogpnkkoablmiaa", sum := "098ad405d4795f582415e3e51f7f2c81960e21ee08e4575a7eac2a60f0f06e69", func := "bindery/binderylaw24.TrailerTells", spec := "trailerTells", inPlace := ["slices.overlaps[bindery/api.Pair]"], unfollowed := true, recurses := true, apart := false, narrowed := true }
def TrailerTellsUptoSaid : Prop := trailerTellsUptoRow.holds Try.pinned (OpenSpec.upto trailerTellsSpec)

/-- 'binderylaw24.TrailerReads', WHERE WHAT IT READS IS OF BULK AT MOST 1048576: true; the input reads as it did. -/
def trailerReadsUptoRow : OpenClaim := { program := "ytogpnkkoablmiaa", sum := "098ad405d4795f582415e3e51f7f2c81960e21ee08e4575a7eac2a60f0f06e69", func := "bindery/binderylaw24.TrailerReads", spec := "trailerReads", inPlace := ["slices.overlaps[bindery/api.Pair]"], unfollowed := true, recurses := true, loops := true, apart := false, narrowed := true }
def TrailerReadsUptoSaid : Prop := trailerReadsUptoRow.holds Try.pinned (OpenSpec.upto trailerReadsSpec)

/-- 'binderylaw24.TrailerBack', WHERE WHAT IT READS IS OF BULK AT MOST 1048576: true; the input reads as it did. -/
def trailerBackUptoRow : OpenClaim := { program := "ytogpnkkoablmiaa", sum := "098ad405d4795f582415e3e51f7f2c81960e21ee08e4575a7eac2a60f0f06e69", func := "bindery/binderylaw24.TrailerBack", spec := "trailerBack", inPlace := ["slices.overlaps[bindery/api.Pair]"], unfollowed := true, recurses := true, loops := true, apart := false, narrowed := true }
def TrailerBackUptoSaid : Prop := trailerBackUptoRow.holds Try.pinned (OpenSpec.upto trailerBackSpec)

/-- 'binderylaw16.ValueChecks', WHERE WHAT IT READS IS OF BULK AT MOST 1048576: true; the input reads as it did. -/
def valueChecksUptoRow : OpenClaim := { program := "ytogpnkkoablmiaa", sum := "098ad405d4795f582415e3e51f7f2c81960e21ee08e4575a7eac2a60f0f06e69", func := "bindery/binderylaw16.ValueChecks", spec := "valueChecks", inPlace := ["slices.overlaps[bindery/api.Pair]", "internal/bytealg.IndexByteString"], unfollowed := true, recurses := true, loops := true, apart := false, narrowed := true }
def ValueChecksUptoSaid : Prop := valueChecksUptoRow.holds Try.pinned (OpenSpec.upto valueChecksSpec)

/-- 'binderylaw16.ValuePlains', WHERE WHAT IT READS IS OF BULK AT MOST 1048576: true; the input reads as it did. -/
def valuePlainsUptoRow : OpenClaim := { program := "ytogpnkkoablmiaa", sum := "098ad405d4795f582415e3e51f7f2c81960e21ee08e4575a7eac2a60f0f06e69", func := "bindery/binderylaw16.ValuePlains", spec := "valuePlains", inPlace := ["slices.overlaps[bindery/api.Pair]", "internal/bytealg.IndexByteString"], unfollowed := true, recurses := true, loops := true, apart := false, narrowed := true }
def ValuePlainsUptoSaid : Prop := valuePlainsUptoRow.holds Try.pinned (OpenSpec.upto valuePlainsSpec)

/-- 'binderylaw16.ValueGets', WHERE WHAT IT READS IS OF BULK AT MOST 1048576: true; the input reads as it did. -/
def valueGetsUptoRow : OpenClaim := { program := "ytogpnkkoablmiaa", sum := "098ad405d4795f582415e3e51f7f2c81960e21ee08e4575a7eac2a60f0f06e69", func := "bindery/binderylaw16.ValueGets", spec := "valueGets", inPlace := ["slices.overlaps[bindery/api.Pair]", "internal/bytealg.IndexByteString"], unfollowed := true, recurses := true, loops := true, apart := false, narrowed := true }
def ValueGetsUptoSaid : Prop := valueGetsUptoRow.holds Try.pinned (OpenSpec.upto valueGetsSpec)

/-- 'binderylaw16.ValueLinks', WHERE WHAT IT READS IS OF BULK AT MOST 1048576: true; the input reads as it did. -/
def valueLinksUptoRow : OpenClaim := { program := "ytogpnkkoablmiaa", sum := "098ad405d4795f582415e3e51f7f2c81960e21ee08e4575a7eac2a60f0f06e69", func := "bindery/binderylaw16.ValueLinks", spec := "valueLinks", inPlace := ["slices.overlaps[bindery/api.Pair]", "internal/bytealg.IndexByteString"], unfollowed := true, recurses := true, loops := true, apart := false, narrowed := true }
def ValueLinksUptoSaid : Prop := valueLinksUptoRow.holds Try.pinned (OpenSpec.upto valueLinksSpec)

/-- 'binderylaw16.ValueTwice', WHERE WHAT IT READS IS OF BULK AT MOST 1048576: true; the input reads as it did. -/
def valueTwiceUptoRow : OpenClaim := { program := "ytogpnkkoablmiaa", sum := "098ad405d4795f582415e3e51f7f2c81960e21ee08e4575a7eac2a60f0f06e69", func := "bindery/binderylaw16.ValueTwice", spec := "valueTwice", inPlace := ["slices.overlaps[bindery/api.Pair]", "internal/bytealg.IndexByteString"], unfollowed := true, recurses := true, loops := true, apart := false, narrowed := true }
def ValueTwiceUptoSaid : Prop := valueTwiceUptoRow.holds Try.pinned (OpenSpec.upto valueTwiceSpec)

/-- 'binderylaw34.ReachTells', WHERE WHAT IT READS IS OF BULK AT MOST 1048576: true; the input reads as it did. -/
def reachTellsUptoRow : OpenClaim := { program := "ytogpnkkoablmiaa", sum := "098ad405d4795f582415e3e51f7f2c81960e21ee08e4575a7eac2a60f0f06e69", func := "bindery/binderylaw34.ReachTells", spec := "reachTells", unfollowed := true, recurses := true, loops := true, apart := false, narrowed := true }
def ReachTellsUptoSaid : Prop := reachTellsUptoRow.holds Try.pinned (OpenSpec.upto reachTellsSpec)

/-- 'binderylaw34.ReachClosed', WHERE WHAT IT READS IS OF BULK AT MOST 1048576: true; the input reads as it did. -/
def reachClosedUptoRow : OpenClaim := { program := "ytogpnkkoablmiaa", sum := "098ad405d4795f582415e3e51f7f2c81960e21ee08e4575a7eac2a60f0f06e69", func := "bindery/binderylaw34.ReachClosed", spec := "reachClosed", unfollowed := true, recurses := true, loops := true, apart := false, narrowed := true }
def ReachClosedUptoSaid : Prop := reachClosedUptoRow.holds Try.pinned (OpenSpec.upto reachClosedSpec)

/-- 'binderylaw34.ReachSwept', WHERE WHAT IT READS IS OF BULK AT MOST 1048576: true; the input reads as it did. -/
def reachSweptUptoRow : OpenClaim := { program := "ytogpnkkoablmiaa", sum := "098ad405d4795f582415e3e51f7f2c81960e21ee08e4575a7eac2a60f0f06e69", func := "bindery/binderylaw34.ReachSwept", spec := "reachSwept", unfollowed := true, recurses := true, loops := true, apart := false, narrowed := true }
def ReachSweptUptoSaid : Prop := reachSweptUptoRow.holds Try.pinned (OpenSpec.upto reachSweptSpec)

end Rows
end Go.Proofs.Ytogpnkkoablmiaa
