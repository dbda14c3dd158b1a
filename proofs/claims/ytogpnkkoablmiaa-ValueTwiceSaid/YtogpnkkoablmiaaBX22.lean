/- The statement ValueTwice as given, for every input, without conditions: what is plain is plain itself, what may be may be plain, and what is put under a key of a dictionary, and is not null, is got there, and nothing else is turned. -/
import Derived.ArgAppend
import Derived.Below
import Derived.BigGuardPart
import Derived.BigQuiet
import Derived.BigRegion
import Derived.ChangeOld
import Derived.ChangeSame
import Derived.Deep.AppendLies
import Derived.Deep.CutBlock
import Derived.Deep.DeepCutAuto
import Derived.Deep.Draws
import Derived.Deep.Fields
import Derived.Deep.LoopGhost
import Derived.Deep.OwnRows
import Derived.Deep.QuietTactic
import Derived.Deep.RegionHeld3
import Derived.Deep.RegionLaw
import Derived.Deep.Slices
import Derived.KernelRfl
import Derived.Laws.BitsLemmas
import Derived.Laws.BytesArg
import Derived.Laws.EntriesVeiled
import Derived.Laws.IdiomCopy
import Derived.Laws.MakeOwn
import Derived.Laws.OwnMore
import Derived.Laws.Rows
import Derived.Laws.Slices
import Derived.Laws.StructEq
import Derived.Lib.AppendIntMem
import Derived.Lib.AppendStr
import Derived.Lib.Bytealg
import Derived.Lib.ConvBytes
import Derived.Lib.Hide
import Derived.Lib.OwnBridge
import Derived.Lib.SliceRun
import Derived.LoopIn
import Derived.LoopNIn
import Derived.Maps.AppendAt
import Derived.Maps.OwnOps
import Derived.Maps.Views
import Derived.OpenShut
import Derived.OrdersHeld
import Derived.Outline
import Derived.OwnWalk
import Derived.OwnWalkIn
import Derived.ProofKit
import Derived.RangeFuncBound
import Derived.RangeFuncBox
import Derived.RangeFuncCalls
import Derived.RangeFuncFrom
import Derived.RangeFuncKeeps
import Derived.RangeFuncLeaves
import Derived.RangeFuncNested
import Derived.RowKit
import Derived.RowKit3
import Derived.Shelf.Abstract
import Derived.Shelf.RegionOpen
import Derived.Shelf.SlSortCmp.KitK
import Derived.Shelf.Spec.SlicesInsertGrow
import Derived.ShutString
import Derived.SizedLaws
import Derived.Sort.LotA
import Derived.Sort.WalkB12
import Derived.Sort.WalkB2
import Derived.Tactics
import Derived.TacticsInMore
import Derived.Test.YtogpnkkoablmiaaProg
import Derived.Test.YtogpnkkoablmiaaRows
import Derived.WalkKit
import Derived.WalkLawsBesides
import Derived.WideLaws
import Derived.Test.YtogpnkkoablmiaaBX1
import Derived.Test.YtogpnkkoablmiaaBX2
import Derived.Test.YtogpnkkoablmiaaBX3
import Derived.Test.YtogpnkkoablmiaaBX4
import Derived.Test.YtogpnkkoablmiaaBX5
import Derived.Test.YtogpnkkoablmiaaBX6
import Derived.Test.YtogpnkkoablmiaaBX7
import Derived.Test.YtogpnkkoablmiaaBX8
import Derived.Test.YtogpnkkoablmiaaBX9
import Derived.Test.YtogpnkkoablmiaaBX10
import Derived.Test.YtogpnkkoablmiaaBX11
import Derived.Test.YtogpnkkoablmiaaBX12
import Derived.Test.YtogpnkkoablmiaaBX13
import Derived.Test.YtogpnkkoablmiaaBX14
import Derived.Test.YtogpnkkoablmiaaBX15
import Derived.Test.YtogpnkkoablmiaaBX16
import Derived.Test.YtogpnkkoablmiaaBX17
import Derived.Test.YtogpnkkoablmiaaBX18
import Derived.Test.YtogpnkkoablmiaaBX19
import Derived.Test.YtogpnkkoablmiaaBX20
import Derived.Test.YtogpnkkoablmiaaBX21
namespace Go.Proofs.Ytogpnkkoablmiaa.valueTwice
open Go.ChangeShapes Go.WideShapes Go.ChangeAt Go.RowKit
open Go.ChangeMaps (open_string shut_string)
open Go.Proofs.Ytogpnkkoablmiaa.V Go.Proofs.Ytogpnkkoablmiaa.Q Go.Proofs.YtogpnkkoablmiaaW.PrintWords
set_option linter.unusedVariables false
set_option linter.unusedSimpArgs false
theorem walk (x0 : S35) (A0 : Option Addr) (c0 : Nat) (B0 : Option Addr) (e0 : Nat) (a1 a2 : ByteArray) (x3 : S35) (A3 : Option Addr) (c3 : Nat) (B3 : Option Addr) (e3 : Nat) (w : World) (l40 : x0.f4.length ≤ c0) (g40 : Kd.C k35 w A0 x0.f4.length x0.f4) (l50 : x0.f5.length ≤ e0) (g50 : Kd.C k89 w B0 x0.f5.length x0.f5) (hs1 : a1.size ≤ 140737488351232) (hs2 : a2.size ≤ 140737488351232) (l43 : x3.f4.length ≤ c3) (g43 : Kd.C k35 w A3 x3.f4.length x3.f4) (l53 : x3.f5.length ≤ e3) (g53 : Kd.C k89 w B3 x3.f5.length x3.f5) : Calls Try.prog 13 #[.agg #[.int .i64 x0.f0, .int .i64 x0.f1, .int .i64 x0.f2, .string x0.f3, .slice A0 x0.f4.length c0, .slice B0 x0.f5.length e0], .string a1, .string a2, .agg #[.int .i64 x3.f0, .int .i64 x3.f1, .int .i64 x3.f2, .string x3.f3, .slice A3 x3.f4.length c3, .slice B3 x3.f5.length e3]] w fun e w' => e = .returned (.bool true) ∧ Below w.heap.size w w' :=
  twice_calls x0 x3 a1 a2 A0 c0 B0 e0 A3 c3 B3 e3 w ⟨l40, g40, l50, g50⟩ ⟨l43, g43, l53, g53⟩
theorem own : ownKnob Try.prog.godebug = none := by kernel_rfl
theorem laidOut : laidOutB Try.prog = true := by kernel_rfl
set_option maxRecDepth 100000 in
theorem lifted (os : Os) (started : os.Started) (H : Type) (enc : TypeId × Value → H) :
    ReturnsInHanded {} Try.checked os 13 .any (Rows.valueTwiceSpec.pre6 enc Try.prog Try.f13 Rows.valueTwiceRow.domain false) (Rows.valueTwiceSpec.post enc Try.prog Try.f13 false true false false) := by
  refine returnsInHanded_of_change_sized (C := Try.checked) own started (by kernel_rfl) Try.func13
    (ChangeSpec.witness6 (enc := enc) (C := Try.checked) false ⟨#[], #[.agg #[.int .i64 0, .int .i64 0, .int .i64 0, .string ByteArray.empty, .slice none 0 0, .slice none 0 0], .string ByteArray.empty, .string ByteArray.empty, .agg #[.int .i64 0, .int .i64 0, .int .i64 0, .string ByteArray.empty, .slice none 0 0, .slice none 0 0]], []⟩ 8 (by kernel_rfl) (by kernel_rfl) (by kernel_rfl) (by kernel_rfl)) ?_
  intro W base args ds gs before hval0 hW hcnd hsz0 _
  have hsz : (DataW.weightsEach Try.prog (Try.f13.params.toList ++ Rows.valueTwiceSpec.plain.varTypes Try.prog) (ds ++ gs)).all (· ≤ reachBytes) = true := hsz0
  have hval : ∀ (j : Nat) t v, Try.f13.params[j]? = some t → args[j]? = some v → Value.okWide Try.prog W .any base t v := hval0
  have hW' := hW
  obtain ⟨p, q, hA0, hV, rfl, hfz, hnd⟩ := hW
  have hA : DataW.TrodAll enc Try.prog W 0 (fun _ => true) true Try.f13.params.toList args.toList ds p := hA0
  rw [Try.params13] at hA hval hsz
  obtain ⟨v0, vs0, d0, ds0, p0, q0, hargs, rfl, rfl, h0, r0⟩ := trodAll_cons hA
  obtain ⟨v1, vs1, d1, ds1, p1, q1, rfl, rfl, rfl, h1, r1⟩ := trodAll_cons r0
  obtain ⟨v2, vs2, d2, ds2, p2, q2, rfl, rfl, rfl, h2, r2⟩ := trodAll_cons r1
  obtain ⟨v3, vs3, d3, ds3, p3, q3, rfl, rfl, rfl, h3, r3⟩ := trodAll_cons r2
  obtain ⟨rfl, rfl, rfl⟩ := trodAll_nil r3
  obtain rfl : args = #[v0, v1, v2, v3] := by cases args; simp_all
  obtain ⟨rfl, rfl⟩ := trodVars_none hV
  obtain ⟨cs0, rfl, _⟩ := okWide_struct Try.underlying35 (hval 0 35 v0 rfl rfl)
  have k0 := h0
  have lt0 : ∀ x ∈ p0, x.block < W.heap.size := by obtain ⟨m, hm⟩ := k0; exact DataW.trod_lt m _ _ _ hm
  obtain ⟨x0, A0, c0, B0, e0, rfl, l40, g40, l50, g50⟩ := O.open_val h0
  obtain ⟨a1, rfl, rfl, rfl, y1⟩ := open_string Try.underlying9 (hval 1 9 v1 rfl rfl) h1
  have w1 : a1.size ≤ 140737488351232 := by
    have z := sized_string hsz (j := 1) (t := 9) rfl rfl
    rw [Array.length_toList] at z
    exact z
  obtain ⟨a2, rfl, rfl, rfl, y2⟩ := open_string Try.underlying9 (hval 2 9 v2 rfl rfl) h2
  have w2 : a2.size ≤ 140737488351232 := by
    have z := sized_string hsz (j := 2) (t := 9) rfl rfl
    rw [Array.length_toList] at z
    exact z
  obtain ⟨cs3, rfl, _⟩ := okWide_struct Try.underlying35 (hval 3 35 v3 rfl rfl)
  have k3 := h3
  have lt3 : ∀ x ∈ p3, x.block < W.heap.size := by obtain ⟨m, hm⟩ := k3; exact DataW.trod_lt m _ _ _ hm
  obtain ⟨x3, A3, c3, B3, e3, rfl, l43, g43, l53, g53⟩ := O.open_val h3
  clear hA0 hval0 hsz0 hsz
  refine (walk x0 A0 c0 B0 e0 a1 a2 x3 A3 c3 B3 e3 W l40 g40 l50 g50 w1 w2 l43 g43 l53 g53).mono fun e W' ⟨he, bel⟩ => ?_
  subst he
  exact ⟨_, rfl, _, _, _, [], _, [], hW', trodAll_mk1 (shut_bool Try.underlying4 _), (trodAll_cons_mk (Below.trod laidOut (by kernel_rfl) (of_decide_eq_true (by kernel_rfl)) k0 bel lt0) (trodAll_cons_mk (shut_string Try.underlying9 y1) (trodAll_cons_mk (shut_string Try.underlying9 y2) (trodAll_cons_mk (Below.trod laidOut (by kernel_rfl) (of_decide_eq_true (by kernel_rfl)) k3 bel lt3) trodAll_mk0)))), rfl, bel.frame _, fun h => by cases h⟩
theorem over : Rows.valueTwiceRow.holds Try.pinned (OpenSpec.ofChange Rows.valueTwiceSpec) :=
  OpenClaim.holds_of_wide 13 Try.f13 rfl rfl rfl rfl rfl rfl rfl ⟨rfl, rfl, rfl, rfl, rfl⟩ rfl rfl rfl rfl rfl (by kernel_rfl) Try.func13 (by kernel_rfl)
    (of_decide_eq_true (by kernel_rfl)) (by unfold Func.isWrapper; first | (rw [if_pos (by decide +kernel)]; kernel_rfl) | (rw [if_neg (by decide +kernel)]; exact ⟨rfl, rfl⟩))
    (fun os started H enc _ => lifted os started H enc)
theorem proved : Rows.ValueTwiceSaid := over
#print axioms proved
end Go.Proofs.Ytogpnkkoablmiaa.valueTwice
namespace Go.Proofs.Ytogpnkkoablmiaa
theorem valueTwice_holds : Rows.ValueTwiceSaid := valueTwice.proved
end Go.Proofs.Ytogpnkkoablmiaa
