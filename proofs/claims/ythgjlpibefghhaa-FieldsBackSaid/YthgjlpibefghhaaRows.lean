/-
  No cell of these rows narrows 'for every input' (looked for: loops, veiled, ifaces, maps, wideKeys, modest, calm, conditions, laid).
  DERIVED. THE GIVEN ROWS OF THIS SEAT. 4 by the template 'for every input the law returns true; each argument reads behind the call as it read before'; 0 by the template 'total and deterministic' (their statements: YthgjlpibefghhaaTotals.lean).
  GIVEN WITH THE SEED: the statements are not yours to turn. If you find one false, say at which input.
  Laid BY PROGRAM, IN A SANDBOX (cutbox-rows.mjs): the forced cells as the released guide's own fill.sh prints them over the translation ae6d1d5f0e17ccc1… (all of the seat's roots in one cut). By AI agents, Wed Nov 11 2026. No macro, syntax, notation, axiom, sorry.
-/
import Derived.Test.YthgjlpibefghhaaChecked
import GoSem.Claim
import GoSem.ClaimJoined
import GoSem.ClaimMapViews
import Derived.JoinedTies
import Derived.KernelRfl
namespace Go.Proofs.Ythgjlpibefghhaa
/- THE CELL 'sum', in the pinned program and in every row, IS THE sha256 OF THE DUMP (.gsa) THAT YthgjlpibefghhaaProg.lean LOADS. Nothing in Lean hashes anything: it is a label: what it is worth is what the hold of that sum in a sandbox is worth. -/
noncomputable def Try.pinned : Pinned := { name := "ythgjlpibefghhaa", sum := "ae6d1d5f0e17ccc11da2201312fc9deab886df0cd154d57e5e95f62f25a6ac9c", checked := Try.checked }
namespace Rows
def none {H : Type} : Left H := { results := [], args := [] }

/-- 'binderylaw03.FieldsPuts': WHATEVER THE INPUT: true; the input reads as it did. -/
def fieldsPutsSpec : ChangeSpec := { name := "fieldsPuts", fn := fun _ => fun
  | [d1, d2] => { results := [.lit (.bool true)], args := [d1, d2] }
  | _ => none }
def fieldsPutsRow : OpenClaim := { program := "ythgjlpibefghhaa", sum := "ae6d1d5f0e17ccc11da2201312fc9deab886df0cd154d57e5e95f62f25a6ac9c", func := "bindery/binderylaw03.FieldsPuts", spec := "fieldsPuts", apart := false }
def FieldsPutsSaid : Prop := fieldsPutsRow.holds Try.pinned (OpenSpec.ofChange fieldsPutsSpec)

/-- ITS FALSE NEIGHBOUR: 'it returns false'. Refute it at one input. -/
def fieldsPutsWrong : ChangeSpec := { name := "fieldsPuts", fn := fun _ => fun
  | [d1, d2] => { results := [.lit (.bool false)], args := [d1, d2] }
  | _ => none }
def FieldsPutsWrongFalsely : Prop := fieldsPutsRow.holds Try.pinned (OpenSpec.ofChange fieldsPutsWrong)

/-- 'binderylaw03.FieldsGets': WHATEVER THE INPUT: true; the input reads as it did. -/
def fieldsGetsSpec : ChangeSpec := { name := "fieldsGets", fn := fun _ => fun
  | [d1, d2] => { results := [.lit (.bool true)], args := [d1, d2] }
  | _ => none }
def fieldsGetsRow : OpenClaim := { program := "ythgjlpibefghhaa", sum := "ae6d1d5f0e17ccc11da2201312fc9deab886df0cd154d57e5e95f62f25a6ac9c", func := "bindery/binderylaw03.FieldsGets", spec := "fieldsGets", apart := false }
def FieldsGetsSaid : Prop := fieldsGetsRow.holds Try.pinned (OpenSpec.ofChange fieldsGetsSpec)

/-- ITS FALSE NEIGHBOUR: 'it returns false'. Refute it at one input. -/
def fieldsGetsWrong : ChangeSpec := { name := "fieldsGets", fn := fun _ => fun
  | [d1, d2] => { results := [.lit (.bool false)], args := [d1, d2] }
  | _ => none }
def FieldsGetsWrongFalsely : Prop := fieldsGetsRow.holds Try.pinned (OpenSpec.ofChange fieldsGetsWrong)

/-- 'binderylaw03.FieldsRows': WHATEVER THE INPUT: true; the input reads as it did. -/
def fieldsRowsSpec : ChangeSpec := { name := "fieldsRows", fn := fun _ => fun
  | [d1, d2, d3] => { results := [.lit (.bool true)], args := [d1, d2, d3] }
  | _ => none }
def fieldsRowsRow : OpenClaim := { program := "ythgjlpibefghhaa", sum := "ae6d1d5f0e17ccc11da2201312fc9deab886df0cd154d57e5e95f62f25a6ac9c", func := "bindery/binderylaw03.FieldsRows", spec := "fieldsRows", apart := false }
def FieldsRowsSaid : Prop := fieldsRowsRow.holds Try.pinned (OpenSpec.ofChange fieldsRowsSpec)

/-- ITS FALSE NEIGHBOUR: 'it returns false'. Refute it at one input. -/
def fieldsRowsWrong : ChangeSpec := { name := "fieldsRows", fn := fun _ => fun
  | [d1, d2, d3] => { results := [.lit (.bool false)], args := [d1, d2, d3] }
  | _ => none }
def FieldsRowsWrongFalsely : Prop := fieldsRowsRow.holds Try.pinned (OpenSpec.ofChange fieldsRowsWrong)

/-- 'binderylaw03.FieldsBack': WHATEVER THE INPUT: true; the input reads as it did. -/
def fieldsBackSpec : ChangeSpec := { name := "fieldsBack", fn := fun _ => fun
  | [d1, d2, d3] => { results := [.lit (.bool true)], args := [d1, d2, d3] }
  | _ => none }
def fieldsBackRow : OpenClaim := { program := "ythgjlpibefghhaa", sum := "ae6d1d5f0e17ccc11da2201312fc9deab886df0cd154d57e5e95f62f25a6ac9c", func := "bindery/binderylaw03.FieldsBack", spec := "fieldsBack", apart := false }
def FieldsBackSaid : Prop := fieldsBackRow.holds Try.pinned (OpenSpec.ofChange fieldsBackSpec)

/-- ITS FALSE NEIGHBOUR: 'it returns false'. Refute it at one input. -/
def fieldsBackWrong : ChangeSpec := { name := "fieldsBack", fn := fun _ => fun
  | [d1, d2, d3] => { results := [.lit (.bool false)], args := [d1, d2, d3] }
  | _ => none }
def FieldsBackWrongFalsely : Prop := fieldsBackRow.holds Try.pinned (OpenSpec.ofChange fieldsBackWrong)

/- THE SECOND FORM. 'bulk': how many values and letters a reading holds, each counted each time it is reached (what is shared counts as often as it is met; a slice's spare places count too). A statement '..UptoSaid' is the law's where the arguments, and the package variables that the reading takes, are together of bulk at most 1048576: NARROWER than '..Said'. Prove '..Said' where nothing that the law and all that it calls make is longer than what came in: it says more and counts as full. Else prove '..UptoSaid'. A law counts once. -/
mutual
def uptoBulk {H : Type} : DataW H → Nat
  | .lit (.string bytes) => bytes.length + 1
  | .lit _ => 1
  | .nil => 1
  | .ptr d => uptoBulk d + 1
  | .slice elems spare => uptoBulkAll elems + uptoBulkAll spare + 1
  | .agg parts => uptoBulkAll parts + 1
  | .iface _ d => uptoBulk d + 1
  | .map entries => uptoBulkEntries entries + 1
  | .held _ => 1
def uptoBulkAll {H : Type} : List (DataW H) → Nat
  | [] => 0
  | d :: r => uptoBulk d + uptoBulkAll r
def uptoBulkEntries {H : Type} : List (Lit × DataW H) → Nat
  | [] => 0
  | x :: r => uptoBulkEntry x + uptoBulkEntries r
def uptoBulkEntry {H : Type} : Lit × DataW H → Nat
  | (.string bytes, d) => bytes.length + uptoBulk d + 1
  | (_, d) => uptoBulk d + 1
 end
def uptoSmall : (H : Type) → List (DataW H) → Bool := fun _ ds => decide (uptoBulkAll ds ≤ 1048576)
def OpenSpec.upto (s : _root_.Go.ChangeSpec) : _root_.Go.OpenSpec := { _root_.Go.OpenSpec.ofChange s with cond := some uptoSmall }

/-- 'binderylaw03.FieldsPuts', WHERE WHAT IT READS IS OF BULK AT MOST 1048576: true; the input reads as it did. -/
def fieldsPutsUptoRow : OpenClaim := { program := "ythgjlpibefghhaa", sum := "ae6d1d5f0e17ccc11da2201312fc9deab886df0cd154d57e5e95f62f25a6ac9c", func := "bindery/binderylaw03.FieldsPuts", spec := "fieldsPuts", apart := false, narrowed := true }
def FieldsPutsUptoSaid : Prop := fieldsPutsUptoRow.holds Try.pinned (OpenSpec.upto fieldsPutsSpec)

/-- 'binderylaw03.FieldsGets', WHERE WHAT IT READS IS OF BULK AT MOST 1048576: true; the input reads as it did. -/
def fieldsGetsUptoRow : OpenClaim := { program := "ythgjlpibefghhaa", sum := "ae6d1d5f0e17ccc11da2201312fc9deab886df0cd154d57e5e95f62f25a6ac9c", func := "bindery/binderylaw03.FieldsGets", spec := "fieldsGets", apart := false, narrowed := true }
def FieldsGetsUptoSaid : Prop := fieldsGetsUptoRow.holds Try.pinned (OpenSpec.upto fieldsGetsSpec)

/-- 'binderylaw03.FieldsRows', WHERE WHAT IT READS IS OF BULK AT MOST 1048576: true; the input reads as it did. -/
def fieldsRowsUptoRow : OpenClaim := { program := "ythgjlpibefghhaa", sum := "ae6d1d5f0e17ccc11da2201312fc9deab886df0cd154d57e5e95f62f25a6ac9c", func := "bindery/binderylaw03.FieldsRows", spec := "fieldsRows", apart := false, narrowed := true }
def FieldsRowsUptoSaid : Prop := fieldsRowsUptoRow.holds Try.pinned (OpenSpec.upto fieldsRowsSpec)

/-- 'binderylaw03.FieldsBack', WHERE WHAT IT READS IS OF BULK AT MOST 1048576: true; the input reads as it did. -/
def fieldsBackUptoRow : OpenClaim := { program := "ythgjlpibefghhaa", sum := "ae6d1d5f0e17ccc11da2201312fc9deab886df0cd154d57e5e95f62f25a6ac9c", func := "bindery/binderylaw03.FieldsBack", spec := "fieldsBack", apart := false, narrowed := true }
def FieldsBackUptoSaid : Prop := fieldsBackUptoRow.holds Try.pinned (OpenSpec.upto fieldsBackSpec)

end Rows
end Go.Proofs.Ythgjlpibefghhaa
