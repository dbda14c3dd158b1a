/- Parts of the proof: what the theorem reaches, put together by a program of this session. -/
import Derived.ArgAppend
import Derived.Below
import Derived.BigGuardPart
import Derived.BigQuiet
import Derived.BigRegion
import Derived.Deep.AppendLies
import Derived.Deep.CutBlock
import Derived.Deep.DeepCutAuto
import Derived.Deep.Draws
import Derived.Deep.LoopGhost
import Derived.Deep.OwnRows
import Derived.Deep.QuietTactic
import Derived.Deep.RegionHeld3
import Derived.Deep.RegionLaw
import Derived.KernelRfl
import Derived.Laws.BitsLemmas
import Derived.Laws.BytesArg
import Derived.Laws.EntriesVeiled
import Derived.Laws.IdiomCopy
import Derived.Laws.MakeOwn
import Derived.Laws.OwnMore
import Derived.Laws.Rows
import Derived.Laws.Slices
import Derived.Laws.StructEq
import Derived.Lib.AppendIntMem
import Derived.Lib.AppendStr
import Derived.Lib.Bytealg
import Derived.Lib.ConvBytes
import Derived.Lib.Hide
import Derived.Lib.OwnBridge
import Derived.Lib.SliceRun
import Derived.LoopIn
import Derived.LoopNIn
import Derived.Maps.AppendAt
import Derived.Maps.OwnOps
import Derived.Maps.Views
import Derived.OrdersHeld
import Derived.Outline
import Derived.OwnWalk
import Derived.OwnWalkIn
import Derived.RangeFuncBound
import Derived.RangeFuncBox
import Derived.RangeFuncCalls
import Derived.RangeFuncFrom
import Derived.RangeFuncKeeps
import Derived.RangeFuncLeaves
import Derived.RangeFuncNested
import Derived.RowKit
import Derived.RowKit3
import Derived.Shelf.Abstract
import Derived.Shelf.RegionOpen
import Derived.Shelf.SlSortCmp.KitK
import Derived.Shelf.Spec.SlicesInsertGrow
import Derived.Sort.LotA
import Derived.Sort.WalkB12
import Derived.Sort.WalkB2
import Derived.Tactics
import Derived.TacticsInMore
import Derived.Test.YtogpnkkoablmiaaProg
import Derived.WalkKit
import Derived.WalkLawsBesides
import Derived.WideLaws
import Derived.Test.YtogpnkkoablmiaaBM1
import Derived.Test.YtogpnkkoablmiaaBM2
import Derived.Test.YtogpnkkoablmiaaBM3
import Derived.Test.YtogpnkkoablmiaaBM4
import Derived.Test.YtogpnkkoablmiaaBM5
import Derived.Test.YtogpnkkoablmiaaBM6
import Derived.Test.YtogpnkkoablmiaaBM7
import Derived.Test.YtogpnkkoablmiaaBM9
import Derived.Test.YtogpnkkoablmiaaBM10
import Derived.Test.YtogpnkkoablmiaaBM11
import Derived.Test.YtogpnkkoablmiaaBM12
import Derived.Test.YtogpnkkoablmiaaBM13
import Derived.Test.YtogpnkkoablmiaaBM14
import Derived.Test.YtogpnkkoablmiaaBM15
import Derived.Test.YtogpnkkoablmiaaBM16
import Derived.Test.YtogpnkkoablmiaaBM17
import Derived.Test.YtogpnkkoablmiaaBM18
import Derived.Test.YtogpnkkoablmiaaBM19
namespace Go.Proofs.Ytogpnkkoablmiaa.V
open Go.Proofs.Ytogpnkkoablmiaa.P Go.RowKit Go.Shelf Go.Lib Go.Proofs.Ytogpnkkoablmiaa.Q Go.Proofs.YtogpnkkoablmiaaW.PrintWords Go.Proofs.YtogpnkkoablmiaaW.PrintLast Go.Proofs.YtogpnkkoablmiaaW.PrintMore
set_option linter.unusedVariables false
set_option linter.unusedSimpArgs false
attribute [local go_sem] Oper.semAt_some
theorem pairsP_mem {d : List S89} {p : S89} (h : p ∈ pairsP d) : (∃ q ∈ d, p.f1 = plain q.f1) ∧ p.f1.f0 ≠ 0 := by
  rw [mem_pairsP] at h
  have h1 := List.mem_of_find?_eq_some h.1
  obtain ⟨q, hq, rfl⟩ := List.mem_map.1 h1
  exact ⟨⟨q, hq, rfl⟩, h.2⟩
def LI (w1 : World) (row : Array Value) (wr : World) (vo : Value) (pre : List (Int × Int)) : Prop :=
  RowKit.Below w1.heap.size w1 wr ∧ wr.heap[w1.heap.size]? = some (.cells row 35 (0, 0)) ∧ ∃ g c, vo = .slice (some ⟨g, 0, none⟩) pre.length c ∧ wr.ownsRow (w1.heap.size + 1) 28 2 vo pre.length (flat pre)
theorem own_ge {W : World} {base e size n : Nat} {v : Value} {xs : List Value} (h : W.ownsRow base e size v n xs) (k : Nat) (hk : v.ownBlock = some k) : base ≤ k ∧ k < W.heap.size := by
  rcases h.2 with ⟨rfl, _⟩ | ⟨g, cap, cur, rfl, hg, hb, _⟩
  · simp [Value.ownBlock] at hk
  · have : g = k := by simpa [Value.ownBlock] using hk
    subst this
    exact ⟨hg, blk_lt hb⟩
theorem LI.below {w1 : World} {row : Array Value} {wr w2 : World} {vo : Value} {pre : List (Int × Int)} (h : LI w1 row wr vo pre) (hb : RowKit.Below wr.heap.size wr w2) : LI w1 row w2 vo pre := by
  obtain ⟨h1, h2, g, c, hv, ho⟩ := h
  exact ⟨h1.trans (hb.mono h1.size), (hb.block _ (blk_lt h2)).trans h2, g, c, hv, own_move ho (fun k hk => hb.block k (own_ge ho k hk).2)⟩
end Go.Proofs.Ytogpnkkoablmiaa.V
