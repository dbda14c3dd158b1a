/- The statement TrailerReads as given, for every input, without conditions: which trailer pairs are, or why none, and what they are without the sum, is what the document says. -/
import Derived.ArgAppend
import Derived.Below
import Derived.BigGuardPart
import Derived.BigQuiet
import Derived.BigRegion
import Derived.ChangeOld
import Derived.ChangeSame
import Derived.Deep.AppendLies
import Derived.Deep.CutBlock
import Derived.Deep.DeepCutAuto
import Derived.Deep.Draws
import Derived.Deep.Fields
import Derived.Deep.LoopGhost
import Derived.Deep.OwnRows
import Derived.Deep.QuietTactic
import Derived.Deep.RegionHeld3
import Derived.Deep.RegionLaw
import Derived.Deep.Slices
import Derived.KernelRfl
import Derived.Laws.BitsLemmas
import Derived.Laws.BytesArg
import Derived.Laws.EntriesVeiled
import Derived.Laws.IdiomCopy
import Derived.Laws.MakeOwn
import Derived.Laws.OwnMore
import Derived.Laws.Rows
import Derived.Laws.Slices
import Derived.Laws.StructEq
import Derived.Lib.AppendIntMem
import Derived.Lib.AppendStr
import Derived.Lib.Bytealg
import Derived.Lib.ConvBytes
import Derived.Lib.Hide
import Derived.Lib.OwnBridge
import Derived.Lib.SliceRun
import Derived.Maps.AppendAt
import Derived.Maps.OwnOps
import Derived.Maps.Views
import Derived.OpenShut
import Derived.OrdersHeld
import Derived.Outline
import Derived.OwnWalk
import Derived.ProofKit
import Derived.RowKit
import Derived.RowKit3
import Derived.Shelf.SlSortCmp.KitK
import Derived.Shelf.Spec.SlicesInsertGrow
import Derived.ShutString
import Derived.SizedLaws
import Derived.Sort.LotA
import Derived.Sort.WalkB12
import Derived.Sort.WalkB2
import Derived.Tactics
import Derived.Test.YtogpnkkoablmiaaProg
import Derived.Test.YtogpnkkoablmiaaRows
import Derived.WalkKit
import Derived.WalkLawsBesides
import Derived.WideLaws
import Derived.Test.YtogpnkkoablmiaaBR1
import Derived.Test.YtogpnkkoablmiaaBR2
import Derived.Test.YtogpnkkoablmiaaBR3
import Derived.Test.YtogpnkkoablmiaaBR4
import Derived.Test.YtogpnkkoablmiaaBR5
import Derived.Test.YtogpnkkoablmiaaBR6
import Derived.Test.YtogpnkkoablmiaaBR7
import Derived.Test.YtogpnkkoablmiaaBR8
import Derived.Test.YtogpnkkoablmiaaBR9
import Derived.Test.YtogpnkkoablmiaaBR10
import Derived.Test.YtogpnkkoablmiaaBR11
import Derived.Test.YtogpnkkoablmiaaBR12
import Derived.Test.YtogpnkkoablmiaaBR13
import Derived.Test.YtogpnkkoablmiaaBR14
import Derived.Test.YtogpnkkoablmiaaBR15
import Derived.Test.YtogpnkkoablmiaaBR16
import Derived.Test.YtogpnkkoablmiaaBR17
import Derived.Test.YtogpnkkoablmiaaBR18
namespace Go.Proofs.Ytogpnkkoablmiaa.trailerReads
open Go.ChangeShapes Go.WideShapes Go.ChangeAt Go.RowKit
open Go.ChangeMaps (open_string shut_string)
open Go.Proofs.Ytogpnkkoablmiaa.V Go.Proofs.Ytogpnkkoablmiaa.U Go.Proofs.Ytogpnkkoablmiaa.R Go.Proofs.Ytogpnkkoablmiaa.Q Go.Proofs.YtogpnkkoablmiaaW.PrintWords
set_option linter.unusedVariables false
set_option linter.unusedSimpArgs false
theorem walk (A : Option Addr) (c : Nat) (l : List S89) (w : World) (hC : Kd.C k89 w A l.length l) (hc : l.length ≤ c) : Calls Try.prog 7 #[.slice A l.length c] w fun e w' => e = .returned (.bool true) ∧ Below w.heap.size w w' := by
  obtain ⟨k, h⟩ := P.reads_all l
  exact binderylaw24_TrailerReads.calls k A c l true w hC hc h
theorem own : ownKnob Try.prog.godebug = none := by kernel_rfl
theorem laidOut : laidOutB Try.prog = true := by kernel_rfl
set_option maxRecDepth 100000 in
theorem lifted (os : Os) (started : os.Started) (H : Type) (enc : TypeId × Value → H) :
    ReturnsInHanded {} Try.checked os 7 .any (Rows.trailerReadsSpec.pre6 enc Try.prog Try.f7 Rows.trailerReadsRow.domain false) (Rows.trailerReadsSpec.post enc Try.prog Try.f7 false true false false) := by
  refine returnsInHanded_of_change_sized (C := Try.checked) own started (by kernel_rfl) Try.func7
    (ChangeSpec.witness6 (enc := enc) (C := Try.checked) false ⟨#[], #[.slice none 0 0], []⟩ 8 (by kernel_rfl) (by kernel_rfl) (by kernel_rfl) (by kernel_rfl)) ?_
  intro W base args ds gs before hval0 hW hcnd hsz0 _
  have hsz : (DataW.weightsEach Try.prog (Try.f7.params.toList ++ Rows.trailerReadsSpec.plain.varTypes Try.prog) (ds ++ gs)).all (· ≤ reachBytes) = true := hsz0
  have hval : ∀ (j : Nat) t v, Try.f7.params[j]? = some t → args[j]? = some v → Value.okWide Try.prog W .any base t v := hval0
  have hW' := hW
  obtain ⟨p, q, hA0, hV, rfl, hfz, hnd⟩ := hW
  have hA : DataW.TrodAll enc Try.prog W 0 (fun _ => true) true Try.f7.params.toList args.toList ds p := hA0
  rw [Try.params7] at hA hval hsz
  obtain ⟨v0, vs0, d0, ds0, p0, q0, hargs, rfl, rfl, h0, r0⟩ := trodAll_cons hA
  obtain ⟨rfl, rfl, rfl⟩ := trodAll_nil r0
  obtain rfl : args = #[v0] := by cases args; simp_all
  obtain ⟨rfl, rfl⟩ := trodVars_none hV
  obtain ⟨a0, len0, cap0, rfl⟩ := okWide_slice Try.underlying33 (hval 0 33 v0 rfl rfl)
  have k0 := h0
  have lt0 : ∀ x ∈ p0, x.block < W.heap.size := by obtain ⟨m, hm⟩ := k0; exact DataW.trod_lt m _ _ _ hm
  obtain ⟨l0, hl0, hC0, hcap0⟩ := O.open_pairs h0
  subst hl0
  clear hA0 hval0 hsz0 hsz
  refine (walk a0 cap0 l0 W hC0 hcap0).mono fun e W' ⟨he, bel⟩ => ?_
  subst he
  exact ⟨_, rfl, _, _, _, [], _, [], hW', trodAll_mk1 (shut_bool Try.underlying4 _), (trodAll_cons_mk (Below.trod laidOut (by kernel_rfl) (of_decide_eq_true (by kernel_rfl)) k0 bel lt0) trodAll_mk0), rfl, bel.frame _, fun h => by cases h⟩
theorem over : Rows.trailerReadsRow.holds Try.pinned (OpenSpec.ofChange Rows.trailerReadsSpec) :=
  OpenClaim.holds_of_wide 7 Try.f7 rfl rfl rfl rfl rfl rfl rfl ⟨rfl, rfl, rfl, rfl, rfl⟩ rfl rfl rfl rfl rfl (by kernel_rfl) Try.func7 (by kernel_rfl)
    (of_decide_eq_true (by kernel_rfl)) (by unfold Func.isWrapper; first | (rw [if_pos (by decide +kernel)]; kernel_rfl) | (rw [if_neg (by decide +kernel)]; exact ⟨rfl, rfl⟩))
    (fun os started H enc _ => lifted os started H enc)
theorem proved : Rows.TrailerReadsSaid := over
#print axioms proved
end Go.Proofs.Ytogpnkkoablmiaa.trailerReads
namespace Go.Proofs.Ytogpnkkoablmiaa
theorem trailerReads_holds : Rows.TrailerReadsSaid := trailerReads.proved
end Go.Proofs.Ytogpnkkoablmiaa
