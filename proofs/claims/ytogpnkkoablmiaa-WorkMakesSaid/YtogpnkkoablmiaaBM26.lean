/- The statement WorkMakes as given, for every input, without conditions: the changes, put into the base, make the slots; behind Settle there are none; and behind Reset all is as it was at the last Settle. -/
import Derived.ArgAppend
import Derived.Below
import Derived.BigGuardPart
import Derived.BigQuiet
import Derived.BigRegion
import Derived.ChangeOld
import Derived.ChangeSame
import Derived.Deep.AppendLies
import Derived.Deep.CutBlock
import Derived.Deep.DeepCutAuto
import Derived.Deep.Draws
import Derived.Deep.Fields
import Derived.Deep.LoopGhost
import Derived.Deep.OwnRows
import Derived.Deep.QuietTactic
import Derived.Deep.RegionHeld3
import Derived.Deep.RegionLaw
import Derived.Deep.Slices
import Derived.KernelRfl
import Derived.Laws.BitsLemmas
import Derived.Laws.BytesArg
import Derived.Laws.EntriesVeiled
import Derived.Laws.IdiomCopy
import Derived.Laws.MakeOwn
import Derived.Laws.OwnMore
import Derived.Laws.Rows
import Derived.Laws.Slices
import Derived.Laws.StructEq
import Derived.Lib.AppendIntMem
import Derived.Lib.AppendStr
import Derived.Lib.Bytealg
import Derived.Lib.ConvBytes
import Derived.Lib.Hide
import Derived.Lib.OwnBridge
import Derived.Lib.SliceRun
import Derived.LoopIn
import Derived.LoopNIn
import Derived.Maps.AppendAt
import Derived.Maps.OwnOps
import Derived.Maps.Views
import Derived.OpenShut
import Derived.OrdersHeld
import Derived.Outline
import Derived.OwnWalk
import Derived.OwnWalkIn
import Derived.ProofKit
import Derived.RangeFuncBound
import Derived.RangeFuncBox
import Derived.RangeFuncCalls
import Derived.RangeFuncFrom
import Derived.RangeFuncKeeps
import Derived.RangeFuncLeaves
import Derived.RangeFuncNested
import Derived.RowKit
import Derived.RowKit3
import Derived.Shelf.Abstract
import Derived.Shelf.RegionOpen
import Derived.Shelf.SlSortCmp.KitK
import Derived.Shelf.Spec.SlicesInsertGrow
import Derived.ShutString
import Derived.SizedLaws
import Derived.Sort.LotA
import Derived.Sort.WalkB12
import Derived.Sort.WalkB2
import Derived.Tactics
import Derived.TacticsInMore
import Derived.Test.YtogpnkkoablmiaaProg
import Derived.Test.YtogpnkkoablmiaaRows
import Derived.WalkKit
import Derived.WalkLawsBesides
import Derived.WideLaws
import Derived.Test.YtogpnkkoablmiaaBM1
import Derived.Test.YtogpnkkoablmiaaBM2
import Derived.Test.YtogpnkkoablmiaaBM3
import Derived.Test.YtogpnkkoablmiaaBM4
import Derived.Test.YtogpnkkoablmiaaBM5
import Derived.Test.YtogpnkkoablmiaaBM6
import Derived.Test.YtogpnkkoablmiaaBM7
import Derived.Test.YtogpnkkoablmiaaBM8
import Derived.Test.YtogpnkkoablmiaaBM9
import Derived.Test.YtogpnkkoablmiaaBM10
import Derived.Test.YtogpnkkoablmiaaBM11
import Derived.Test.YtogpnkkoablmiaaBM12
import Derived.Test.YtogpnkkoablmiaaBM13
import Derived.Test.YtogpnkkoablmiaaBM14
import Derived.Test.YtogpnkkoablmiaaBM15
import Derived.Test.YtogpnkkoablmiaaBM16
import Derived.Test.YtogpnkkoablmiaaBM17
import Derived.Test.YtogpnkkoablmiaaBM18
import Derived.Test.YtogpnkkoablmiaaBM19
import Derived.Test.YtogpnkkoablmiaaBM20
import Derived.Test.YtogpnkkoablmiaaBM21
import Derived.Test.YtogpnkkoablmiaaBM22
import Derived.Test.YtogpnkkoablmiaaBM23
import Derived.Test.YtogpnkkoablmiaaBM24
import Derived.Test.YtogpnkkoablmiaaBM25
namespace Go.Proofs.Ytogpnkkoablmiaa.workMakes
open Go.ChangeShapes Go.WideShapes Go.ChangeAt Go.RowKit
open Go.ChangeMaps (open_string shut_string)
open Go.Proofs.Ytogpnkkoablmiaa.V Go.Proofs.Ytogpnkkoablmiaa.Q Go.Proofs.YtogpnkkoablmiaaW.PrintWords
set_option linter.unusedVariables false
set_option linter.unusedSimpArgs false
theorem walk (A0 : Option Addr) (c0 : Nat) (l0 : List S69) (A1 : Option Addr) (c1 : Nat) (l1 : List S37) (A2 : Option Addr) (c2 : Nat) (l2 : List S37) (w : World) (hC0 : Kd.C k69 w A0 l0.length l0) (hc0 : l0.length ≤ c0) (hC1 : Kd.C k37 w A1 l1.length l1) (hc1 : l1.length ≤ c1) (hC2 : Kd.C k37 w A2 l2.length l2) (hc2 : l2.length ≤ c2) : Calls Try.prog 5 #[.slice A0 l0.length c0, .slice A1 l1.length c1, .slice A2 l2.length c2] w fun e w' => e = .returned (.bool true) ∧ Below w.heap.size w w' :=
  makes_calls l0 l1 l2 A0 c0 A1 c1 A2 c2 w hc0 hC0 hc1 hC1 hc2 hC2
theorem own : ownKnob Try.prog.godebug = none := by kernel_rfl
theorem laidOut : laidOutB Try.prog = true := by kernel_rfl
set_option maxRecDepth 100000 in
theorem lifted (os : Os) (started : os.Started) (H : Type) (enc : TypeId × Value → H) :
    ReturnsInHanded {} Try.checked os 5 .any (Rows.workMakesSpec.pre6 enc Try.prog Try.f5 Rows.workMakesRow.domain false) (Rows.workMakesSpec.post enc Try.prog Try.f5 false true false false) := by
  refine returnsInHanded_of_change_sized (C := Try.checked) own started (by kernel_rfl) Try.func5
    (ChangeSpec.witness6 (enc := enc) (C := Try.checked) false ⟨#[], #[.slice none 0 0, .slice none 0 0, .slice none 0 0], []⟩ 8 (by kernel_rfl) (by kernel_rfl) (by kernel_rfl) (by kernel_rfl)) ?_
  intro W base args ds gs before hval0 hW hcnd hsz0 _
  have hsz : (DataW.weightsEach Try.prog (Try.f5.params.toList ++ Rows.workMakesSpec.plain.varTypes Try.prog) (ds ++ gs)).all (· ≤ reachBytes) = true := hsz0
  have hval : ∀ (j : Nat) t v, Try.f5.params[j]? = some t → args[j]? = some v → Value.okWide Try.prog W .any base t v := hval0
  have hW' := hW
  obtain ⟨p, q, hA0, hV, rfl, hfz, hnd⟩ := hW
  have hA : DataW.TrodAll enc Try.prog W 0 (fun _ => true) true Try.f5.params.toList args.toList ds p := hA0
  rw [Try.params5] at hA hval hsz
  obtain ⟨v0, vs0, d0, ds0, p0, q0, hargs, rfl, rfl, h0, r0⟩ := trodAll_cons hA
  obtain ⟨v1, vs1, d1, ds1, p1, q1, rfl, rfl, rfl, h1, r1⟩ := trodAll_cons r0
  obtain ⟨v2, vs2, d2, ds2, p2, q2, rfl, rfl, rfl, h2, r2⟩ := trodAll_cons r1
  obtain ⟨rfl, rfl, rfl⟩ := trodAll_nil r2
  obtain rfl : args = #[v0, v1, v2] := by cases args; simp_all
  obtain ⟨rfl, rfl⟩ := trodVars_none hV
  obtain ⟨a0, len0, cap0, rfl⟩ := okWide_slice Try.underlying46 (hval 0 46 v0 rfl rfl)
  have k0 := h0
  have lt0 : ∀ x ∈ p0, x.block < W.heap.size := by obtain ⟨m, hm⟩ := k0; exact DataW.trod_lt m _ _ _ hm
  obtain ⟨l0, hl0, hC0, hcap0⟩ := O.open_slots h0
  subst hl0
  obtain ⟨a1, len1, cap1, rfl⟩ := okWide_slice Try.underlying22 (hval 1 22 v1 rfl rfl)
  have k1 := h1
  have lt1 : ∀ x ∈ p1, x.block < W.heap.size := by obtain ⟨m, hm⟩ := k1; exact DataW.trod_lt m _ _ _ hm
  obtain ⟨l1, hl1, hC1, hcap1⟩ := O.open_ops h1
  subst hl1
  obtain ⟨a2, len2, cap2, rfl⟩ := okWide_slice Try.underlying22 (hval 2 22 v2 rfl rfl)
  have k2 := h2
  have lt2 : ∀ x ∈ p2, x.block < W.heap.size := by obtain ⟨m, hm⟩ := k2; exact DataW.trod_lt m _ _ _ hm
  obtain ⟨l2, hl2, hC2, hcap2⟩ := O.open_ops h2
  subst hl2
  clear hA0 hval0 hsz0 hsz
  refine (walk a0 cap0 l0 a1 cap1 l1 a2 cap2 l2 W hC0 hcap0 hC1 hcap1 hC2 hcap2).mono fun e W' ⟨he, bel⟩ => ?_
  subst he
  exact ⟨_, rfl, _, _, _, [], _, [], hW', trodAll_mk1 (shut_bool Try.underlying4 _), (trodAll_cons_mk (Below.trod laidOut (by kernel_rfl) (of_decide_eq_true (by kernel_rfl)) k0 bel lt0) (trodAll_cons_mk (Below.trod laidOut (by kernel_rfl) (of_decide_eq_true (by kernel_rfl)) k1 bel lt1) (trodAll_cons_mk (Below.trod laidOut (by kernel_rfl) (of_decide_eq_true (by kernel_rfl)) k2 bel lt2) trodAll_mk0))), rfl, bel.frame _, fun h => by cases h⟩
theorem over : Rows.workMakesRow.holds Try.pinned (OpenSpec.ofChange Rows.workMakesSpec) :=
  OpenClaim.holds_of_wide 5 Try.f5 rfl rfl rfl rfl rfl rfl rfl ⟨rfl, rfl, rfl, rfl, rfl⟩ rfl rfl rfl rfl rfl (by kernel_rfl) Try.func5 (by kernel_rfl)
    (of_decide_eq_true (by kernel_rfl)) (by unfold Func.isWrapper; first | (rw [if_pos (by decide +kernel)]; kernel_rfl) | (rw [if_neg (by decide +kernel)]; exact ⟨rfl, rfl⟩))
    (fun os started H enc _ => lifted os started H enc)
theorem proved : Rows.WorkMakesSaid := over
#print axioms proved
end Go.Proofs.Ytogpnkkoablmiaa.workMakes
namespace Go.Proofs.Ytogpnkkoablmiaa
theorem workMakes_holds : Rows.WorkMakesSaid := workMakes.proved
end Go.Proofs.Ytogpnkkoablmiaa
