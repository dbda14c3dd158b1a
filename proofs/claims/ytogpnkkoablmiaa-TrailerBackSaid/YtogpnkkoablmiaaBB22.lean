/- Parts of the proof: what the theorem reaches, put together by a program of this session. -/
import Derived.ArgAppend
import Derived.Below
import Derived.BigGuardPart
import Derived.BigQuiet
import Derived.BigRegion
import Derived.Deep.AppendLies
import Derived.Deep.CutBlock
import Derived.Deep.DeepCutAuto
import Derived.Deep.Draws
import Derived.Deep.LoopGhost
import Derived.Deep.OwnRows
import Derived.Deep.QuietTactic
import Derived.Deep.RegionHeld3
import Derived.Deep.RegionLaw
import Derived.KernelRfl
import Derived.Laws.BitsLemmas
import Derived.Laws.BytesArg
import Derived.Laws.EntriesVeiled
import Derived.Laws.IdiomCopy
import Derived.Laws.MakeOwn
import Derived.Laws.OwnMore
import Derived.Laws.Rows
import Derived.Laws.Slices
import Derived.Laws.StructEq
import Derived.Lib.AppendIntMem
import Derived.Lib.AppendStr
import Derived.Lib.Bytealg
import Derived.Lib.ConvBytes
import Derived.Lib.Hide
import Derived.Lib.OwnBridge
import Derived.Lib.SliceRun
import Derived.Maps.AppendAt
import Derived.Maps.OwnOps
import Derived.Maps.Views
import Derived.OpenShut
import Derived.OrdersHeld
import Derived.Outline
import Derived.OwnWalk
import Derived.RowKit
import Derived.RowKit3
import Derived.Shelf.SlSortCmp.KitK
import Derived.Shelf.Spec.SlicesInsertGrow
import Derived.Sort.LotA
import Derived.Sort.WalkB12
import Derived.Sort.WalkB2
import Derived.Tactics
import Derived.Test.YtogpnkkoablmiaaProg
import Derived.WalkKit
import Derived.WalkLawsBesides
import Derived.WideLaws
import Derived.Test.YtogpnkkoablmiaaBB1
import Derived.Test.YtogpnkkoablmiaaBB2
import Derived.Test.YtogpnkkoablmiaaBB3
import Derived.Test.YtogpnkkoablmiaaBB4
import Derived.Test.YtogpnkkoablmiaaBB5
import Derived.Test.YtogpnkkoablmiaaBB6
import Derived.Test.YtogpnkkoablmiaaBB7
import Derived.Test.YtogpnkkoablmiaaBB9
import Derived.Test.YtogpnkkoablmiaaBB10
import Derived.Test.YtogpnkkoablmiaaBB11
import Derived.Test.YtogpnkkoablmiaaBB12
import Derived.Test.YtogpnkkoablmiaaBB13
import Derived.Test.YtogpnkkoablmiaaBB14
import Derived.Test.YtogpnkkoablmiaaBB15
import Derived.Test.YtogpnkkoablmiaaBB16
import Derived.Test.YtogpnkkoablmiaaBB17
import Derived.Test.YtogpnkkoablmiaaBB18
import Derived.Test.YtogpnkkoablmiaaBB19
import Derived.Test.YtogpnkkoablmiaaBB20
import Derived.Test.YtogpnkkoablmiaaBB21
namespace Go.Proofs.Ytogpnkkoablmiaa.P
open Go.RowKit Go.Proofs.Ytogpnkkoablmiaa.V Go.Proofs.Ytogpnkkoablmiaa.U Go.Proofs.Ytogpnkkoablmiaa.R Go.Proofs.Ytogpnkkoablmiaa.Q Go.Proofs.YtogpnkkoablmiaaW.PrintWords Go.Proofs.YtogpnkkoablmiaaW.PrintLast
set_option linter.unusedVariables false
set_option linter.unusedSimpArgs false
theorem chk_k (t0 t1 t2 t3 t4 t5 : Int) (k : Nat) : trailer_Check.f (k + 1) t0 t1 t2 t3 t4 t5 = some (chkT t0 t1 t2 t3 t4 t5) := by
  induction k with
  | zero => exact chk_f t0 t1 t2 t3 t4 t5
  | succ n ih => exact trailer_Check.mono _ _ _ _ _ _ _ _ ih
def kvI (k : ByteArray) (n : Int) : S89 := ⟨k, ⟨2, n, 0, ⟨#[]⟩, [], []⟩⟩
def prT (t0 t1 t2 t3 t4 t5 : Int) : List S89 :=
  [⟨⟨#[67, 114, 99]⟩, ⟨4, 0, 0, (H.putS t5 4).1, [], []⟩⟩, kvI ⟨#[76, 101, 110]⟩ t4] ++ (if 0 ≤ t1 then [kvI ⟨#[80, 114, 101, 118]⟩ t1] else []) ++ (if 0 < t2 then [⟨⟨#[82, 111, 111, 116]⟩, ⟨7, t2, t3, ⟨#[]⟩, [], []⟩⟩] else []) ++ [kvI ⟨#[83, 105, 122, 101]⟩ t0]
theorem chk5 {t0 t1 t2 t3 t4 t5 : Int} (h : chkT t0 t1 t2 t3 t4 t5 = 0) : 0 ≤ t5 ∧ t5 ≤ 4294967295 := by
  unfold chkT at h
  split at h
  · rename_i h2; exact h2.2.2.2.2
  · cases h
theorem prog_pairs (t0 t1 t2 t3 t4 t5 : Int) (k : Nat) : trailer_Pairs.f (k + 1) t0 t1 t2 t3 t4 t5 = some (if chkT t0 t1 t2 t3 t4 t5 = 0 then (prT t0 t1 t2 t3 t4 t5, 0) else ([], chkT t0 t1 t2 t3 t4 t5)) := by
  unfold trailer_Pairs.f
  rw [chk_k]
  by_cases h : chkT t0 t1 t2 t3 t4 t5 = 0
  · have h5 := chk5 h
    rw [Option.bind_some, if_pos h, if_pos h, H.put_eq _ _ (by omega)]
    have ge : ∀ a b : Int, a ≥ b ↔ b ≤ a := fun a b => Iff.rfl
    have gt : ∀ a b : Int, a > b ↔ b < a := fun a b => Iff.rfl
    by_cases h1 : 0 ≤ t1 <;> by_cases h2 : 0 < t2 <;> simp [R.trailer_number.f, prT, kvI, h1, h2, ge, gt]
  · rw [Option.bind_some, if_neg h, if_neg h]
end Go.Proofs.Ytogpnkkoablmiaa.P
