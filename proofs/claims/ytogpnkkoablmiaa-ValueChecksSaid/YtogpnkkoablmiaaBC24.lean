/- Parts of the proof: what the theorem reaches, put together by a program of this session. -/
import Derived.ArgAppend
import Derived.Below
import Derived.BigGuardPart
import Derived.BigQuiet
import Derived.BigRegion
import Derived.Deep.AppendLies
import Derived.Deep.CutBlock
import Derived.Deep.DeepCutAuto
import Derived.Deep.Draws
import Derived.Deep.LoopGhost
import Derived.Deep.OwnRows
import Derived.Deep.QuietTactic
import Derived.Deep.RegionHeld3
import Derived.Deep.RegionLaw
import Derived.KernelRfl
import Derived.Laws.BitsLemmas
import Derived.Laws.BytesArg
import Derived.Laws.EntriesVeiled
import Derived.Laws.IdiomCopy
import Derived.Laws.MakeOwn
import Derived.Laws.OwnMore
import Derived.Laws.Rows
import Derived.Laws.Slices
import Derived.Laws.StructEq
import Derived.Lib.AppendIntMem
import Derived.Lib.AppendStr
import Derived.Lib.Bytealg
import Derived.Lib.ConvBytes
import Derived.Lib.Hide
import Derived.Lib.OwnBridge
import Derived.Lib.SliceRun
import Derived.LoopIn
import Derived.LoopNIn
import Derived.Maps.AppendAt
import Derived.Maps.OwnOps
import Derived.Maps.Views
import Derived.OrdersHeld
import Derived.Outline
import Derived.OwnWalk
import Derived.OwnWalkIn
import Derived.RangeFuncBound
import Derived.RangeFuncBox
import Derived.RangeFuncCalls
import Derived.RangeFuncFrom
import Derived.RangeFuncKeeps
import Derived.RangeFuncLeaves
import Derived.RangeFuncNested
import Derived.RowKit
import Derived.RowKit3
import Derived.Shelf.Abstract
import Derived.Shelf.RegionOpen
import Derived.Shelf.SlSortCmp.KitK
import Derived.Shelf.Spec.SlicesInsertGrow
import Derived.Sort.LotA
import Derived.Sort.WalkB12
import Derived.Sort.WalkB2
import Derived.Tactics
import Derived.TacticsInMore
import Derived.Test.YtogpnkkoablmiaaProg
import Derived.WalkKit
import Derived.WalkLawsBesides
import Derived.WideLaws
import Derived.Test.YtogpnkkoablmiaaBC1
import Derived.Test.YtogpnkkoablmiaaBC2
import Derived.Test.YtogpnkkoablmiaaBC3
import Derived.Test.YtogpnkkoablmiaaBC4
import Derived.Test.YtogpnkkoablmiaaBC5
import Derived.Test.YtogpnkkoablmiaaBC6
import Derived.Test.YtogpnkkoablmiaaBC8
import Derived.Test.YtogpnkkoablmiaaBC9
import Derived.Test.YtogpnkkoablmiaaBC10
import Derived.Test.YtogpnkkoablmiaaBC11
import Derived.Test.YtogpnkkoablmiaaBC12
import Derived.Test.YtogpnkkoablmiaaBC13
import Derived.Test.YtogpnkkoablmiaaBC14
import Derived.Test.YtogpnkkoablmiaaBC15
import Derived.Test.YtogpnkkoablmiaaBC16
import Derived.Test.YtogpnkkoablmiaaBC17
import Derived.Test.YtogpnkkoablmiaaBC18
import Derived.Test.YtogpnkkoablmiaaBC19
import Derived.Test.YtogpnkkoablmiaaBC20
import Derived.Test.YtogpnkkoablmiaaBC21
import Derived.Test.YtogpnkkoablmiaaBC22
import Derived.Test.YtogpnkkoablmiaaBC23
namespace Go.Proofs.Ytogpnkkoablmiaa.P
open Go.RowKit Go.Proofs.Ytogpnkkoablmiaa.V Go.Proofs.Ytogpnkkoablmiaa.X Go.Proofs.Ytogpnkkoablmiaa.Q Go.Proofs.YtogpnkkoablmiaaW.PrintWords Go.Proofs.YtogpnkkoablmiaaW.PrintLast
set_option linter.unusedVariables false
set_option linter.unusedSimpArgs false
theorem checks_all (v : S35) (s : Bool) : ∃ k, binderylaw16_ValueChecks.f k v.f0 v.f1 v.f2 v.f3 v.f4 v.f5 s = some true := by
  obtain ⟨b, k0, hb, hk⟩ := few_all v 2000 (by omega) (by omega)
  cases b with
  | false =>
    refine ⟨k0, ?_⟩
    unfold binderylaw16_ValueChecks.f
    rw [hk k0 (Nat.le_refl _), Option.bind_some, if_neg (by decide)]
    rfl
  | true =>
    obtain ⟨ht, hf, hs⟩ := hb rfl
    obtain ⟨k1, h1⟩ := vdp_all v (by omega)
    obtain ⟨k2, h2⟩ := rdp_all v (by omega)
    obtain ⟨k3, h3⟩ := vsz_all v (by omega)
    obtain ⟨k4, h4⟩ := rsz_all v (by omega)
    refine ⟨max k0 (max k1 (max k2 (max k3 k4))), ?_⟩
    have c1 : value_Check.f v.f0 v.f1 v.f2 v.f3 v.f4 v.f5 s = some (chkV v s 0) := by cases v; unfold value_Check.f; rfl
    have c2 : binderyref16_Check.f v.f0 v.f1 v.f2 v.f3 v.f4 v.f5 s = some (chkV v s 0) := by cases v; unfold binderyref16_Check.f; exact if_pos hs
    unfold binderylaw16_ValueChecks.f
    rw [hk _ (by omega), Option.bind_some, if_pos rfl, c1, Option.bind_some, c2, Option.bind_some, if_pos rfl, h1 _ (by omega), Option.bind_some, h2 _ (by omega), Option.bind_some, if_pos rfl, h3 _ (by omega), Option.bind_some, h4 _ (by omega), Option.bind_some, if_pos rfl]
    rfl
end Go.Proofs.Ytogpnkkoablmiaa.P
