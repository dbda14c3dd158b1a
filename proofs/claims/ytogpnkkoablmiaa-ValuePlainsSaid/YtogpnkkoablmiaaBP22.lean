/- The statement ValuePlains as given, for every input, without conditions: what a value is, plainly, and whether two are alike, is what the document says. -/
import Derived.ArgAppend
import Derived.Below
import Derived.BigGuardPart
import Derived.BigQuiet
import Derived.BigRegion
import Derived.ChangeOld
import Derived.ChangeSame
import Derived.Deep.AppendLies
import Derived.Deep.CutBlock
import Derived.Deep.DeepCutAuto
import Derived.Deep.Draws
import Derived.Deep.Fields
import Derived.Deep.LoopGhost
import Derived.Deep.OwnRows
import Derived.Deep.QuietTactic
import Derived.Deep.RegionHeld3
import Derived.Deep.RegionLaw
import Derived.Deep.Slices
import Derived.KernelRfl
import Derived.Laws.BitsLemmas
import Derived.Laws.BytesArg
import Derived.Laws.EntriesVeiled
import Derived.Laws.IdiomCopy
import Derived.Laws.MakeOwn
import Derived.Laws.OwnMore
import Derived.Laws.Rows
import Derived.Laws.Slices
import Derived.Laws.StructEq
import Derived.Lib.AppendIntMem
import Derived.Lib.AppendStr
import Derived.Lib.Bytealg
import Derived.Lib.ConvBytes
import Derived.Lib.Hide
import Derived.Lib.OwnBridge
import Derived.Lib.SliceRun
import Derived.LoopIn
import Derived.LoopNIn
import Derived.Maps.AppendAt
import Derived.Maps.OwnOps
import Derived.Maps.Views
import Derived.OpenShut
import Derived.OrdersHeld
import Derived.Outline
import Derived.OwnWalk
import Derived.OwnWalkIn
import Derived.ProofKit
import Derived.RangeFuncBound
import Derived.RangeFuncBox
import Derived.RangeFuncCalls
import Derived.RangeFuncFrom
import Derived.RangeFuncKeeps
import Derived.RangeFuncLeaves
import Derived.RangeFuncNested
import Derived.RowKit
import Derived.RowKit3
import Derived.Shelf.Abstract
import Derived.Shelf.RegionOpen
import Derived.Shelf.SlSortCmp.KitK
import Derived.Shelf.Spec.SlicesInsertGrow
import Derived.ShutString
import Derived.SizedLaws
import Derived.Sort.LotA
import Derived.Sort.WalkB12
import Derived.Sort.WalkB2
import Derived.Tactics
import Derived.TacticsInMore
import Derived.Test.YtogpnkkoablmiaaProg
import Derived.Test.YtogpnkkoablmiaaRows
import Derived.WalkKit
import Derived.WalkLawsBesides
import Derived.WideLaws
import Derived.Test.YtogpnkkoablmiaaBP1
import Derived.Test.YtogpnkkoablmiaaBP2
import Derived.Test.YtogpnkkoablmiaaBP3
import Derived.Test.YtogpnkkoablmiaaBP4
import Derived.Test.YtogpnkkoablmiaaBP5
import Derived.Test.YtogpnkkoablmiaaBP6
import Derived.Test.YtogpnkkoablmiaaBP7
import Derived.Test.YtogpnkkoablmiaaBP8
import Derived.Test.YtogpnkkoablmiaaBP9
import Derived.Test.YtogpnkkoablmiaaBP10
import Derived.Test.YtogpnkkoablmiaaBP11
import Derived.Test.YtogpnkkoablmiaaBP12
import Derived.Test.YtogpnkkoablmiaaBP13
import Derived.Test.YtogpnkkoablmiaaBP14
import Derived.Test.YtogpnkkoablmiaaBP15
import Derived.Test.YtogpnkkoablmiaaBP16
import Derived.Test.YtogpnkkoablmiaaBP17
import Derived.Test.YtogpnkkoablmiaaBP18
import Derived.Test.YtogpnkkoablmiaaBP19
import Derived.Test.YtogpnkkoablmiaaBP20
import Derived.Test.YtogpnkkoablmiaaBP21
namespace Go.Proofs.Ytogpnkkoablmiaa.valuePlains
open Go.ChangeShapes Go.WideShapes Go.ChangeAt Go.RowKit
open Go.ChangeMaps (open_string shut_string)
open Go.Proofs.Ytogpnkkoablmiaa.V Go.Proofs.Ytogpnkkoablmiaa.Y Go.Proofs.Ytogpnkkoablmiaa.Q Go.Proofs.YtogpnkkoablmiaaW.PrintWords
set_option linter.unusedVariables false
set_option linter.unusedSimpArgs false
theorem walk (x0 : S35) (A0 : Option Addr) (c0 : Nat) (B0 : Option Addr) (e0 : Nat) (x1 : S35) (A1 : Option Addr) (c1 : Nat) (B1 : Option Addr) (e1 : Nat) (w : World) (l40 : x0.f4.length ≤ c0) (g40 : Kd.C k35 w A0 x0.f4.length x0.f4) (l50 : x0.f5.length ≤ e0) (g50 : Kd.C k89 w B0 x0.f5.length x0.f5) (l41 : x1.f4.length ≤ c1) (g41 : Kd.C k35 w A1 x1.f4.length x1.f4) (l51 : x1.f5.length ≤ e1) (g51 : Kd.C k89 w B1 x1.f5.length x1.f5) : Calls Try.prog 10 #[.agg #[.int .i64 x0.f0, .int .i64 x0.f1, .int .i64 x0.f2, .string x0.f3, .slice A0 x0.f4.length c0, .slice B0 x0.f5.length e0], .agg #[.int .i64 x1.f0, .int .i64 x1.f1, .int .i64 x1.f2, .string x1.f3, .slice A1 x1.f4.length c1, .slice B1 x1.f5.length e1]] w fun e w' => e = .returned (.bool true) ∧ Below w.heap.size w w' := by
  obtain ⟨k, h⟩ := P.plains_all x0 x1
  exact binderylaw16_ValuePlains.calls k x0.f0 x0.f1 x0.f2 x0.f3 A0 c0 x0.f4 B0 e0 x0.f5 x1.f0 x1.f1 x1.f2 x1.f3 A1 c1 x1.f4 B1 e1 x1.f5 true w g40 l40 g50 l50 g41 l41 g51 l51 h
theorem own : ownKnob Try.prog.godebug = none := by kernel_rfl
theorem laidOut : laidOutB Try.prog = true := by kernel_rfl
set_option maxRecDepth 100000 in
theorem lifted (os : Os) (started : os.Started) (H : Type) (enc : TypeId × Value → H) :
    ReturnsInHanded {} Try.checked os 10 .any (Rows.valuePlainsSpec.pre6 enc Try.prog Try.f10 Rows.valuePlainsRow.domain false) (Rows.valuePlainsSpec.post enc Try.prog Try.f10 false true false false) := by
  refine returnsInHanded_of_change_sized (C := Try.checked) own started (by kernel_rfl) Try.func10
    (ChangeSpec.witness6 (enc := enc) (C := Try.checked) false ⟨#[], #[.agg #[.int .i64 0, .int .i64 0, .int .i64 0, .string ByteArray.empty, .slice none 0 0, .slice none 0 0], .agg #[.int .i64 0, .int .i64 0, .int .i64 0, .string ByteArray.empty, .slice none 0 0, .slice none 0 0]], []⟩ 8 (by kernel_rfl) (by kernel_rfl) (by kernel_rfl) (by kernel_rfl)) ?_
  intro W base args ds gs before hval0 hW hcnd hsz0 _
  have hsz : (DataW.weightsEach Try.prog (Try.f10.params.toList ++ Rows.valuePlainsSpec.plain.varTypes Try.prog) (ds ++ gs)).all (· ≤ reachBytes) = true := hsz0
  have hval : ∀ (j : Nat) t v, Try.f10.params[j]? = some t → args[j]? = some v → Value.okWide Try.prog W .any base t v := hval0
  have hW' := hW
  obtain ⟨p, q, hA0, hV, rfl, hfz, hnd⟩ := hW
  have hA : DataW.TrodAll enc Try.prog W 0 (fun _ => true) true Try.f10.params.toList args.toList ds p := hA0
  rw [Try.params10] at hA hval hsz
  obtain ⟨v0, vs0, d0, ds0, p0, q0, hargs, rfl, rfl, h0, r0⟩ := trodAll_cons hA
  obtain ⟨v1, vs1, d1, ds1, p1, q1, rfl, rfl, rfl, h1, r1⟩ := trodAll_cons r0
  obtain ⟨rfl, rfl, rfl⟩ := trodAll_nil r1
  obtain rfl : args = #[v0, v1] := by cases args; simp_all
  obtain ⟨rfl, rfl⟩ := trodVars_none hV
  obtain ⟨cs0, rfl, _⟩ := okWide_struct Try.underlying35 (hval 0 35 v0 rfl rfl)
  have k0 := h0
  have lt0 : ∀ x ∈ p0, x.block < W.heap.size := by obtain ⟨m, hm⟩ := k0; exact DataW.trod_lt m _ _ _ hm
  obtain ⟨x0, A0, c0, B0, e0, rfl, l40, g40, l50, g50⟩ := O.open_val h0
  obtain ⟨cs1, rfl, _⟩ := okWide_struct Try.underlying35 (hval 1 35 v1 rfl rfl)
  have k1 := h1
  have lt1 : ∀ x ∈ p1, x.block < W.heap.size := by obtain ⟨m, hm⟩ := k1; exact DataW.trod_lt m _ _ _ hm
  obtain ⟨x1, A1, c1, B1, e1, rfl, l41, g41, l51, g51⟩ := O.open_val h1
  clear hA0 hval0 hsz0 hsz
  refine (walk x0 A0 c0 B0 e0 x1 A1 c1 B1 e1 W l40 g40 l50 g50 l41 g41 l51 g51).mono fun e W' ⟨he, bel⟩ => ?_
  subst he
  exact ⟨_, rfl, _, _, _, [], _, [], hW', trodAll_mk1 (shut_bool Try.underlying4 _), (trodAll_cons_mk (Below.trod laidOut (by kernel_rfl) (of_decide_eq_true (by kernel_rfl)) k0 bel lt0) (trodAll_cons_mk (Below.trod laidOut (by kernel_rfl) (of_decide_eq_true (by kernel_rfl)) k1 bel lt1) trodAll_mk0)), rfl, bel.frame _, fun h => by cases h⟩
theorem over : Rows.valuePlainsRow.holds Try.pinned (OpenSpec.ofChange Rows.valuePlainsSpec) :=
  OpenClaim.holds_of_wide 10 Try.f10 rfl rfl rfl rfl rfl rfl rfl ⟨rfl, rfl, rfl, rfl, rfl⟩ rfl rfl rfl rfl rfl (by kernel_rfl) Try.func10 (by kernel_rfl)
    (of_decide_eq_true (by kernel_rfl)) (by unfold Func.isWrapper; first | (rw [if_pos (by decide +kernel)]; kernel_rfl) | (rw [if_neg (by decide +kernel)]; exact ⟨rfl, rfl⟩))
    (fun os started H enc _ => lifted os started H enc)
theorem proved : Rows.ValuePlainsSaid := over
#print axioms proved
end Go.Proofs.Ytogpnkkoablmiaa.valuePlains
namespace Go.Proofs.Ytogpnkkoablmiaa
theorem valuePlains_holds : Rows.ValuePlainsSaid := valuePlains.proved
end Go.Proofs.Ytogpnkkoablmiaa
