/- Written by a program of this session (a turn of the printer of the kit that takes contracts proved by hand). Lean checks it. -/
import Derived.Test.YtncfjogmggofgaaProg
import Derived.Below
import Derived.Deep.Draws
import Derived.Deep.AppendLies
import Derived.Maps.AppendAt
import Derived.OwnWalk
import Derived.Laws.BytesArg
import Derived.Laws.MakeOwn
import Derived.Laws.OwnMore
import Derived.Deep.OwnRows
import Derived.Tactics
import Derived.Lib.ConvBytes
import Derived.Laws.Slices
import Derived.WalkKit
import Derived.KernelRfl
import Derived.RowKit3
import Derived.Deep.LoopGhost
import Derived.Deep.QuietTactic
import Derived.BigQuiet
import Derived.WideLaws
import Derived.Deep.DeepCutAuto
import Derived.Deep.CutBlock
import Derived.Deep.RegionHeld3
import Derived.Laws.Rows
import Derived.Lib.AppendStr
import Derived.ArgAppend
import Derived.Laws.IdiomCopy
import Derived.OrdersHeld
import Derived.Laws.BitsLemmas
import Derived.RowKit
import Derived.Test.YtncfjogmggofgaaGe
import Derived.Test.YtncfjogmggofgaaHa
import Derived.Test.YtncfjogmggofgaaWWords
import Derived.Test.YtncfjogmggofgaaWLast
import Derived.Test.YtncfjogmggofgaaWTab
import Derived.Test.YtncfjogmggofgaaWFour
import Derived.Test.YtncfjogmggofgaaWQPut
import Derived.Test.YtncfjogmggofgaaWApart
import Derived.Test.YtncfjogmggofgaaWArr
import Derived.Test.YtncfjogmggofgaaWZeros
import Derived.Test.YtncfjogmggofgaaWFoot
import Derived.Test.YtncfjogmggofgaaWKept
import Derived.Test.YtncfjogmggofgaaWShare
import Derived.Test.YtncfjogmggofgaaWN
import Derived.Test.YtncfjogmggofgaaWFootNe
import Derived.Test.YtncfjogmggofgaaWAt
import Derived.Test.YtncfjogmggofgaaWEqStruct
import Derived.Test.YtncfjogmggofgaaWRepsOne
import Derived.Test.YtncfjogmggofgaaWInv
import Derived.Test.YtncfjogmggofgaaWInvWords
import Derived.Test.YtncfjogmggofgaaWGuard
import Derived.Test.YtncfjogmggofgaaWNEv
import Derived.Test.YtncfjogmggofgaaWMore
namespace Go.Proofs.Ytncfjogmggofgaa.Q
open Go.RowKit Go.Proofs.YtncfjogmggofgaaW.PrintWords Go.Proofs.YtncfjogmggofgaaW.PrintLast Go.Proofs.YtncfjogmggofgaaW.PrintMore
attribute [local go_sem] max2_int min2_int max_two min_two max_three min_three max_four min_four   -- for this text's walks alone
set_option linter.unusedVariables false
set_option linter.unusedSimpArgs false



def errW : Option Int → Value
  | none => .nilIface
  | some c => .iface 0 (.int .i64 c)
theorem errW_none : errW none = .nilIface := rfl
theorem errW_some (c : Int) : errW (some c) = .iface 0 (.int .i64 c) := rfl

theorem info9 : (Try.prog.info? 9).map (fun i => (i.zero, i.size, i.bytes)) = some (some (.string ⟨#[]⟩), 1, 16) := by kernel_rfl
-- the values' own types

end Go.Proofs.Ytncfjogmggofgaa.Q
