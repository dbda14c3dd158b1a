/-
  No cell of these rows narrows 'for every input' (looked for: loops, veiled, ifaces, maps, wideKeys, modest, calm, conditions, laid).
  DERIVED. THE GIVEN ROWS OF THIS SEAT. 5 by the template 'for every input the law returns true; each argument reads behind the call as it read before'; 0 by the template 'total and deterministic' (their statements: YtnneppnjofneoaaTotals.lean).
  GIVEN WITH THE SEED: the statements are not yours to turn. If you find one false, say at which input.
  Laid BY PROGRAM, IN A SANDBOX (cutbox-rows.mjs): the forced cells as the released guide's own fill.sh prints them over the translation f9f84ad1a2e80fa9… (all of the seat's roots in one cut). By AI agents, Wed Nov 11 2026. No macro, syntax, notation, axiom, sorry.
-/
import Derived.Test.YtnneppnjofneoaaChecked
import GoSem.Claim
import GoSem.ClaimJoined
import GoSem.ClaimMapViews
import Derived.JoinedTies
import Derived.KernelRfl
namespace Go.Proofs.Ytnneppnjofneoaa
/- THE CELL 'sum', in the pinned program and in every row, IS THE sha256 OF THE DUMP (.gsa) THAT YtnneppnjofneoaaProg.lean LOADS. Nothing in Lean hashes anything: it is a label: what it is worth is what the hold of that sum in a sandbox is worth. -/
noncomputable def Try.pinned : Pinned := { name := "ytnneppnjofneoaa", sum := "f9f84ad1a2e80fa9d7247e47e747631898916ae38dd74146701b9ae548b91efc", checked := Try.checked }
namespace Rows
def none {H : Type} : Left H := { results := [], args := [] }

/-- 'binderylaw21.TableLinks': WHATEVER THE INPUT: true; the input reads as it did. -/
def tableLinksSpec : ChangeSpec := { name := "tableLinks", fn := fun _ => fun
  | [d] => { results := [.lit (.bool true)], args := [d] }
  | _ => none }
def tableLinksRow : OpenClaim := { program := "ytnneppnjofneoaa", sum := "f9f84ad1a2e80fa9d7247e47e747631898916ae38dd74146701b9ae548b91efc", func := "bindery/binderylaw21.TableLinks", spec := "tableLinks", unfollowed := true, recurses := true, apart := false }
def TableLinksSaid : Prop := tableLinksRow.holds Try.pinned (OpenSpec.ofChange tableLinksSpec)

/-- ITS FALSE NEIGHBOUR: 'it returns false'. Refute it at one input. -/
def tableLinksWrong : ChangeSpec := { name := "tableLinks", fn := fun _ => fun
  | [d] => { results := [.lit (.bool false)], args := [d] }
  | _ => none }
def TableLinksWrongFalsely : Prop := tableLinksRow.holds Try.pinned (OpenSpec.ofChange tableLinksWrong)

/-- 'binderylaw21.TableChecks': WHATEVER THE INPUT: true; the input reads as it did. -/
def tableChecksSpec : ChangeSpec := { name := "tableChecks", fn := fun _ => fun
  | [d] => { results := [.lit (.bool true)], args := [d] }
  | _ => none }
def tableChecksRow : OpenClaim := { program := "ytnneppnjofneoaa", sum := "f9f84ad1a2e80fa9d7247e47e747631898916ae38dd74146701b9ae548b91efc", func := "bindery/binderylaw21.TableChecks", spec := "tableChecks", unfollowed := true, recurses := true, apart := false }
def TableChecksSaid : Prop := tableChecksRow.holds Try.pinned (OpenSpec.ofChange tableChecksSpec)

/-- ITS FALSE NEIGHBOUR: 'it returns false'. Refute it at one input. -/
def tableChecksWrong : ChangeSpec := { name := "tableChecks", fn := fun _ => fun
  | [d] => { results := [.lit (.bool false)], args := [d] }
  | _ => none }
def TableChecksWrongFalsely : Prop := tableChecksRow.holds Try.pinned (OpenSpec.ofChange tableChecksWrong)

/-- 'binderylaw21.TableWalk': WHATEVER THE INPUT: true; the input reads as it did. -/
def tableWalkSpec : ChangeSpec := { name := "tableWalk", fn := fun _ => fun
  | [d] => { results := [.lit (.bool true)], args := [d] }
  | _ => none }
def tableWalkRow : OpenClaim := { program := "ytnneppnjofneoaa", sum := "f9f84ad1a2e80fa9d7247e47e747631898916ae38dd74146701b9ae548b91efc", func := "bindery/binderylaw21.TableWalk", spec := "tableWalk", unfollowed := true, recurses := true, apart := false }
def TableWalkSaid : Prop := tableWalkRow.holds Try.pinned (OpenSpec.ofChange tableWalkSpec)

/-- ITS FALSE NEIGHBOUR: 'it returns false'. Refute it at one input. -/
def tableWalkWrong : ChangeSpec := { name := "tableWalk", fn := fun _ => fun
  | [d] => { results := [.lit (.bool false)], args := [d] }
  | _ => none }
def TableWalkWrongFalsely : Prop := tableWalkRow.holds Try.pinned (OpenSpec.ofChange tableWalkWrong)

/-- 'binderylaw21.TableApplies': WHATEVER THE INPUT: true; the input reads as it did. -/
def tableAppliesSpec : ChangeSpec := { name := "tableApplies", fn := fun _ => fun
  | [d1, d2, d3] => { results := [.lit (.bool true)], args := [d1, d2, d3] }
  | _ => none }
def tableAppliesRow : OpenClaim := { program := "ytnneppnjofneoaa", sum := "f9f84ad1a2e80fa9d7247e47e747631898916ae38dd74146701b9ae548b91efc", func := "bindery/binderylaw21.TableApplies", spec := "tableApplies", unfollowed := true, recurses := true, apart := false }
def TableAppliesSaid : Prop := tableAppliesRow.holds Try.pinned (OpenSpec.ofChange tableAppliesSpec)

/-- ITS FALSE NEIGHBOUR: 'it returns false'. Refute it at one input. -/
def tableAppliesWrong : ChangeSpec := { name := "tableApplies", fn := fun _ => fun
  | [d1, d2, d3] => { results := [.lit (.bool false)], args := [d1, d2, d3] }
  | _ => none }
def TableAppliesWrongFalsely : Prop := tableAppliesRow.holds Try.pinned (OpenSpec.ofChange tableAppliesWrong)

/-- 'binderylaw21.TableBack': WHATEVER THE INPUT: true; the input reads as it did. -/
def tableBackSpec : ChangeSpec := { name := "tableBack", fn := fun _ => fun
  | [d1, d2] => { results := [.lit (.bool true)], args := [d1, d2] }
  | _ => none }
def tableBackRow : OpenClaim := { program := "ytnneppnjofneoaa", sum := "f9f84ad1a2e80fa9d7247e47e747631898916ae38dd74146701b9ae548b91efc", func := "bindery/binderylaw21.TableBack", spec := "tableBack", unfollowed := true, recurses := true, apart := false }
def TableBackSaid : Prop := tableBackRow.holds Try.pinned (OpenSpec.ofChange tableBackSpec)

/-- ITS FALSE NEIGHBOUR: 'it returns false'. Refute it at one input. -/
def tableBackWrong : ChangeSpec := { name := "tableBack", fn := fun _ => fun
  | [d1, d2] => { results := [.lit (.bool false)], args := [d1, d2] }
  | _ => none }
def TableBackWrongFalsely : Prop := tableBackRow.holds Try.pinned (OpenSpec.ofChange tableBackWrong)

/- THE SECOND FORM. 'bulk': how many values and letters a reading holds, each counted each time it is reached (what is shared counts as often as it is met; a slice's spare places count too). A statement '..UptoSaid' is the law's where the arguments, and the package variables that the reading takes, are together of bulk at most 1048576: NARROWER than '..Said'. Prove '..Said' where nothing that the law and all that it calls make is longer than what came in: it says more and counts as full. Else prove '..UptoSaid'. A law counts once. -/
mutual
def uptoBulk {H : Type} : DataW H → Nat
  | .lit (.string bytes) => bytes.length + 1
  | .lit _ => 1
  | .nil => 1
  | .ptr d => uptoBulk d + 1
  | .slice elems spare => uptoBulkAll elems + uptoBulkAll spare + 1
  | .agg parts => uptoBulkAll parts + 1
  | .iface _ d => uptoBulk d + 1
  | .map entries => uptoBulkEntries entries + 1
  | .held _ => 1
def uptoBulkAll {H : Type} : List (DataW H) → Nat
  | [] => 0
  | d :: r => uptoBulk d + uptoBulkAll r
def uptoBulkEntries {H : Type} : List (Lit × DataW H) → Nat
  | [] => 0
  | x :: r => uptoBulkEntry x + uptoBulkEntries r
def uptoBulkEntry {H : Type} : Lit × DataW H → Nat
  | (.string bytes, d) => bytes.length + uptoBulk d + 1
  | (_, d) => uptoBulk d + 1
 end
def uptoSmall : (H : Type) → List (DataW H) → Bool := fun _ ds => decide (uptoBulkAll ds ≤ 1048576)
def OpenSpec.upto (s : _root_.Go.ChangeSpec) : _root_.Go.OpenSpec := { _root_.Go.OpenSpec.ofChange s with cond := some uptoSmall }

/-- 'binderylaw21.TableLinks', WHERE WHAT IT READS IS OF BULK AT MOST 1048576: true; the input reads as it did. -/
def tableLinksUptoRow : OpenClaim := { program := "ytnneppnjofneoaa", sum := "f9f84ad1a2e80fa9d7247e47e747631898916ae38dd74146701b9ae548b91efc", func := "bindery/binderylaw21.TableLinks", spec := "tableLinks", unfollowed := true, recurses := true, apart := false, narrowed := true }
def TableLinksUptoSaid : Prop := tableLinksUptoRow.holds Try.pinned (OpenSpec.upto tableLinksSpec)

/-- 'binderylaw21.TableChecks', WHERE WHAT IT READS IS OF BULK AT MOST 1048576: true; the input reads as it did. -/
def tableChecksUptoRow : OpenClaim := { program := "ytnneppnjofneoaa", sum := "f9f84ad1a2e80fa9d7247e47e747631898916ae38dd74146701b9ae548b91efc", func := "bindery/binderylaw21.TableChecks", spec := "tableChecks", unfollowed := true, recurses := true, apart := false, narrowed := true }
def TableChecksUptoSaid : Prop := tableChecksUptoRow.holds Try.pinned (OpenSpec.upto tableChecksSpec)

/-- 'binderylaw21.TableWalk', WHERE WHAT IT READS IS OF BULK AT MOST 1048576: true; the input reads as it did. -/
def tableWalkUptoRow : OpenClaim := { program := "ytnneppnjofneoaa", sum := "f9f84ad1a2e80fa9d7247e47e747631898916ae38dd74146701b9ae548b91efc", func := "bindery/binderylaw21.TableWalk", spec := "tableWalk", unfollowed := true, recurses := true, apart := false, narrowed := true }
def TableWalkUptoSaid : Prop := tableWalkUptoRow.holds Try.pinned (OpenSpec.upto tableWalkSpec)

/-- 'binderylaw21.TableApplies', WHERE WHAT IT READS IS OF BULK AT MOST 1048576: true; the input reads as it did. -/
def tableAppliesUptoRow : OpenClaim := { program := "ytnneppnjofneoaa", sum := "f9f84ad1a2e80fa9d7247e47e747631898916ae38dd74146701b9ae548b91efc", func := "bindery/binderylaw21.TableApplies", spec := "tableApplies", unfollowed := true, recurses := true, apart := false, narrowed := true }
def TableAppliesUptoSaid : Prop := tableAppliesUptoRow.holds Try.pinned (OpenSpec.upto tableAppliesSpec)

/-- 'binderylaw21.TableBack', WHERE WHAT IT READS IS OF BULK AT MOST 1048576: true; the input reads as it did. -/
def tableBackUptoRow : OpenClaim := { program := "ytnneppnjofneoaa", sum := "f9f84ad1a2e80fa9d7247e47e747631898916ae38dd74146701b9ae548b91efc", func := "bindery/binderylaw21.TableBack", spec := "tableBack", unfollowed := true, recurses := true, apart := false, narrowed := true }
def TableBackUptoSaid : Prop := tableBackUptoRow.holds Try.pinned (OpenSpec.upto tableBackSpec)

end Rows
end Go.Proofs.Ytnneppnjofneoaa
