/- The statement ValueGets as given, for every input, without conditions: what stands under a key of a value, and what it is with another one there, is what the document says. -/
import Derived.ArgAppend
import Derived.Below
import Derived.BigGuardPart
import Derived.BigQuiet
import Derived.BigRegion
import Derived.ChangeOld
import Derived.ChangeSame
import Derived.Deep.AppendLies
import Derived.Deep.CutBlock
import Derived.Deep.DeepCutAuto
import Derived.Deep.Draws
import Derived.Deep.Fields
import Derived.Deep.LoopGhost
import Derived.Deep.OwnRows
import Derived.Deep.QuietTactic
import Derived.Deep.RegionHeld3
import Derived.Deep.RegionLaw
import Derived.Deep.Slices
import Derived.KernelRfl
import Derived.Laws.BitsLemmas
import Derived.Laws.BytesArg
import Derived.Laws.EntriesVeiled
import Derived.Laws.IdiomCopy
import Derived.Laws.MakeOwn
import Derived.Laws.OwnMore
import Derived.Laws.Rows
import Derived.Laws.Slices
import Derived.Laws.StructEq
import Derived.Lib.AppendIntMem
import Derived.Lib.AppendStr
import Derived.Lib.Bytealg
import Derived.Lib.ConvBytes
import Derived.Lib.Hide
import Derived.Lib.OwnBridge
import Derived.Lib.SliceRun
import Derived.LoopIn
import Derived.LoopNIn
import Derived.Maps.AppendAt
import Derived.Maps.OwnOps
import Derived.Maps.Views
import Derived.OpenShut
import Derived.OrdersHeld
import Derived.Outline
import Derived.OwnWalk
import Derived.OwnWalkIn
import Derived.ProofKit
import Derived.RangeFuncBound
import Derived.RangeFuncBox
import Derived.RangeFuncCalls
import Derived.RangeFuncFrom
import Derived.RangeFuncKeeps
import Derived.RangeFuncLeaves
import Derived.RangeFuncNested
import Derived.RowKit
import Derived.RowKit3
import Derived.Shelf.Abstract
import Derived.Shelf.RegionOpen
import Derived.Shelf.SlSortCmp.KitK
import Derived.Shelf.Spec.SlicesInsertGrow
import Derived.ShutString
import Derived.SizedLaws
import Derived.Sort.LotA
import Derived.Sort.WalkB12
import Derived.Sort.WalkB2
import Derived.Tactics
import Derived.TacticsInMore
import Derived.Test.YtogpnkkoablmiaaProg
import Derived.Test.YtogpnkkoablmiaaRows
import Derived.WalkKit
import Derived.WalkLawsBesides
import Derived.WideLaws
import Derived.Test.YtogpnkkoablmiaaBG1
import Derived.Test.YtogpnkkoablmiaaBG2
import Derived.Test.YtogpnkkoablmiaaBG3
import Derived.Test.YtogpnkkoablmiaaBG4
import Derived.Test.YtogpnkkoablmiaaBG5
import Derived.Test.YtogpnkkoablmiaaBG6
import Derived.Test.YtogpnkkoablmiaaBG7
import Derived.Test.YtogpnkkoablmiaaBG8
import Derived.Test.YtogpnkkoablmiaaBG9
import Derived.Test.YtogpnkkoablmiaaBG10
import Derived.Test.YtogpnkkoablmiaaBG11
import Derived.Test.YtogpnkkoablmiaaBG12
import Derived.Test.YtogpnkkoablmiaaBG13
import Derived.Test.YtogpnkkoablmiaaBG14
import Derived.Test.YtogpnkkoablmiaaBG15
import Derived.Test.YtogpnkkoablmiaaBG16
import Derived.Test.YtogpnkkoablmiaaBG17
import Derived.Test.YtogpnkkoablmiaaBG18
import Derived.Test.YtogpnkkoablmiaaBG19
import Derived.Test.YtogpnkkoablmiaaBG20
import Derived.Test.YtogpnkkoablmiaaBG21
namespace Go.Proofs.Ytogpnkkoablmiaa.valueGets
open Go.ChangeShapes Go.WideShapes Go.ChangeAt Go.RowKit
open Go.ChangeMaps (open_string shut_string)
open Go.Proofs.Ytogpnkkoablmiaa.V Go.Proofs.Ytogpnkkoablmiaa.Y Go.Proofs.Ytogpnkkoablmiaa.Q Go.Proofs.YtogpnkkoablmiaaW.PrintWords
set_option linter.unusedVariables false
set_option linter.unusedSimpArgs false
theorem walk (x0 : S35) (A0 : Option Addr) (c0 : Nat) (B0 : Option Addr) (e0 : Nat) (a1 : ByteArray) (x2 : S35) (A2 : Option Addr) (c2 : Nat) (B2 : Option Addr) (e2 : Nat) (w : World) (l40 : x0.f4.length ≤ c0) (g40 : Kd.C k35 w A0 x0.f4.length x0.f4) (l50 : x0.f5.length ≤ e0) (g50 : Kd.C k89 w B0 x0.f5.length x0.f5) (hs1 : a1.size ≤ 140737488351232) (l42 : x2.f4.length ≤ c2) (g42 : Kd.C k35 w A2 x2.f4.length x2.f4) (l52 : x2.f5.length ≤ e2) (g52 : Kd.C k89 w B2 x2.f5.length x2.f5) : Calls Try.prog 11 #[.agg #[.int .i64 x0.f0, .int .i64 x0.f1, .int .i64 x0.f2, .string x0.f3, .slice A0 x0.f4.length c0, .slice B0 x0.f5.length e0], .string a1, .agg #[.int .i64 x2.f0, .int .i64 x2.f1, .int .i64 x2.f2, .string x2.f3, .slice A2 x2.f4.length c2, .slice B2 x2.f5.length e2]] w fun e w' => e = .returned (.bool true) ∧ Below w.heap.size w w' := by
  obtain ⟨k, h⟩ := P.gets_all x0 a1 x2
  exact binderylaw16_ValueGets.calls k x0.f0 x0.f1 x0.f2 x0.f3 A0 c0 x0.f4 B0 e0 x0.f5 a1 x2.f0 x2.f1 x2.f2 x2.f3 A2 c2 x2.f4 B2 e2 x2.f5 true w g40 l40 g50 l50 g42 l42 g52 l52 h
theorem own : ownKnob Try.prog.godebug = none := by kernel_rfl
theorem laidOut : laidOutB Try.prog = true := by kernel_rfl
set_option maxRecDepth 100000 in
theorem lifted (os : Os) (started : os.Started) (H : Type) (enc : TypeId × Value → H) :
    ReturnsInHanded {} Try.checked os 11 .any (Rows.valueGetsSpec.pre6 enc Try.prog Try.f11 Rows.valueGetsRow.domain false) (Rows.valueGetsSpec.post enc Try.prog Try.f11 false true false false) := by
  refine returnsInHanded_of_change_sized (C := Try.checked) own started (by kernel_rfl) Try.func11
    (ChangeSpec.witness6 (enc := enc) (C := Try.checked) false ⟨#[], #[.agg #[.int .i64 0, .int .i64 0, .int .i64 0, .string ByteArray.empty, .slice none 0 0, .slice none 0 0], .string ByteArray.empty, .agg #[.int .i64 0, .int .i64 0, .int .i64 0, .string ByteArray.empty, .slice none 0 0, .slice none 0 0]], []⟩ 8 (by kernel_rfl) (by kernel_rfl) (by kernel_rfl) (by kernel_rfl)) ?_
  intro W base args ds gs before hval0 hW hcnd hsz0 _
  have hsz : (DataW.weightsEach Try.prog (Try.f11.params.toList ++ Rows.valueGetsSpec.plain.varTypes Try.prog) (ds ++ gs)).all (· ≤ reachBytes) = true := hsz0
  have hval : ∀ (j : Nat) t v, Try.f11.params[j]? = some t → args[j]? = some v → Value.okWide Try.prog W .any base t v := hval0
  have hW' := hW
  obtain ⟨p, q, hA0, hV, rfl, hfz, hnd⟩ := hW
  have hA : DataW.TrodAll enc Try.prog W 0 (fun _ => true) true Try.f11.params.toList args.toList ds p := hA0
  rw [Try.params11] at hA hval hsz
  obtain ⟨v0, vs0, d0, ds0, p0, q0, hargs, rfl, rfl, h0, r0⟩ := trodAll_cons hA
  obtain ⟨v1, vs1, d1, ds1, p1, q1, rfl, rfl, rfl, h1, r1⟩ := trodAll_cons r0
  obtain ⟨v2, vs2, d2, ds2, p2, q2, rfl, rfl, rfl, h2, r2⟩ := trodAll_cons r1
  obtain ⟨rfl, rfl, rfl⟩ := trodAll_nil r2
  obtain rfl : args = #[v0, v1, v2] := by cases args; simp_all
  obtain ⟨rfl, rfl⟩ := trodVars_none hV
  obtain ⟨cs0, rfl, _⟩ := okWide_struct Try.underlying35 (hval 0 35 v0 rfl rfl)
  have k0 := h0
  have lt0 : ∀ x ∈ p0, x.block < W.heap.size := by obtain ⟨m, hm⟩ := k0; exact DataW.trod_lt m _ _ _ hm
  obtain ⟨x0, A0, c0, B0, e0, rfl, l40, g40, l50, g50⟩ := O.open_val h0
  obtain ⟨a1, rfl, rfl, rfl, y1⟩ := open_string Try.underlying9 (hval 1 9 v1 rfl rfl) h1
  have w1 : a1.size ≤ 140737488351232 := by
    have z := sized_string hsz (j := 1) (t := 9) rfl rfl
    rw [Array.length_toList] at z
    exact z
  obtain ⟨cs2, rfl, _⟩ := okWide_struct Try.underlying35 (hval 2 35 v2 rfl rfl)
  have k2 := h2
  have lt2 : ∀ x ∈ p2, x.block < W.heap.size := by obtain ⟨m, hm⟩ := k2; exact DataW.trod_lt m _ _ _ hm
  obtain ⟨x2, A2, c2, B2, e2, rfl, l42, g42, l52, g52⟩ := O.open_val h2
  clear hA0 hval0 hsz0 hsz
  refine (walk x0 A0 c0 B0 e0 a1 x2 A2 c2 B2 e2 W l40 g40 l50 g50 w1 l42 g42 l52 g52).mono fun e W' ⟨he, bel⟩ => ?_
  subst he
  exact ⟨_, rfl, _, _, _, [], _, [], hW', trodAll_mk1 (shut_bool Try.underlying4 _), (trodAll_cons_mk (Below.trod laidOut (by kernel_rfl) (of_decide_eq_true (by kernel_rfl)) k0 bel lt0) (trodAll_cons_mk (shut_string Try.underlying9 y1) (trodAll_cons_mk (Below.trod laidOut (by kernel_rfl) (of_decide_eq_true (by kernel_rfl)) k2 bel lt2) trodAll_mk0))), rfl, bel.frame _, fun h => by cases h⟩
theorem over : Rows.valueGetsRow.holds Try.pinned (OpenSpec.ofChange Rows.valueGetsSpec) :=
  OpenClaim.holds_of_wide 11 Try.f11 rfl rfl rfl rfl rfl rfl rfl ⟨rfl, rfl, rfl, rfl, rfl⟩ rfl rfl rfl rfl rfl (by kernel_rfl) Try.func11 (by kernel_rfl)
    (of_decide_eq_true (by kernel_rfl)) (by unfold Func.isWrapper; first | (rw [if_pos (by decide +kernel)]; kernel_rfl) | (rw [if_neg (by decide +kernel)]; exact ⟨rfl, rfl⟩))
    (fun os started H enc _ => lifted os started H enc)
theorem proved : Rows.ValueGetsSaid := over
#print axioms proved
end Go.Proofs.Ytogpnkkoablmiaa.valueGets
namespace Go.Proofs.Ytogpnkkoablmiaa
theorem valueGets_holds : Rows.ValueGetsSaid := valueGets.proved
end Go.Proofs.Ytogpnkkoablmiaa
