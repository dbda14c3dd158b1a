/- Parts of the proof: what the theorem reaches, put together by a program of this session. -/
import Derived.ArgAppend
import Derived.Below
import Derived.BigGuardPart
import Derived.BigQuiet
import Derived.Deep.AppendLies
import Derived.Deep.CutBlock
import Derived.Deep.DeepCutAuto
import Derived.Deep.Draws
import Derived.Deep.LoopGhost
import Derived.Deep.OwnRows
import Derived.Deep.QuietTactic
import Derived.Deep.RegionHeld3
import Derived.KernelRfl
import Derived.Laws.BitsLemmas
import Derived.Laws.BytesArg
import Derived.Laws.IdiomCopy
import Derived.Laws.MakeOwn
import Derived.Laws.OwnMore
import Derived.Laws.Rows
import Derived.Laws.Slices
import Derived.Laws.StructEq
import Derived.Lib.AppendStr
import Derived.Lib.Bytealg
import Derived.Lib.ConvBytes
import Derived.Maps.AppendAt
import Derived.OrdersHeld
import Derived.OwnWalk
import Derived.RowKit
import Derived.RowKit3
import Derived.Tactics
import Derived.Test.YtogpnkkoablmiaaProg
import Derived.WalkKit
import Derived.WideLaws
import Derived.Test.YtogpnkkoablmiaaBB1
import Derived.Test.YtogpnkkoablmiaaBB2
import Derived.Test.YtogpnkkoablmiaaBB3
import Derived.Test.YtogpnkkoablmiaaBB4
import Derived.Test.YtogpnkkoablmiaaBB5
import Derived.Test.YtogpnkkoablmiaaBB6
import Derived.Test.YtogpnkkoablmiaaBB7
import Derived.Test.YtogpnkkoablmiaaBB11
namespace Go.Proofs.Ytogpnkkoablmiaa.V
open Go.RowKit Go.Proofs.Ytogpnkkoablmiaa.Q Go.Proofs.YtogpnkkoablmiaaW.PrintWords Go.Proofs.YtogpnkkoablmiaaW.PrintLast Go.Proofs.YtogpnkkoablmiaaW.PrintMore
set_option linter.unusedVariables false
set_option linter.unusedSimpArgs false
def hasT (k : Int) : Bool × Bool × Bool × Bool × Bool × Bool :=
  if k = 0 then (false, false, false, false, false, true) else if k = 1 ∨ k = 2 then (true, false, false, false, false, true) else if k = 3 ∨ k = 4 then (false, false, true, false, false, true) else
  if k = 5 then (false, false, false, true, false, true) else if k = 6 then (false, false, false, false, true, true) else if k = 7 then (true, true, false, false, false, true) else
  if k = 8 then (false, false, true, false, true, true) else (false, false, false, false, false, false)
theorem kinds9 (k : Int) : k = 0 ∨ k = 1 ∨ k = 2 ∨ k = 3 ∨ k = 4 ∨ k = 5 ∨ k = 6 ∨ k = 7 ∨ k = 8 ∨ (k ≠ 0 ∧ k ≠ 1 ∧ k ≠ 2 ∧ k ≠ 3 ∧ k ≠ 4 ∧ k ≠ 5 ∧ k ≠ 6 ∧ k ≠ 7 ∧ k ≠ 8) := by omega
set_option maxHeartbeats 4000000 in
set_option maxRecDepth 100000 in
theorem has_calls (k : Int) (n g s l d ok : Bool) (h : hasT k = (n, g, s, l, d, ok)) (w : World) : Calls Try.prog 120 #[.int .i64 k] w fun e w' => e = .returned (.tuple #[.agg #[.bool n, .bool g, .bool s, .bool l, .bool d], .bool ok]) ∧ Below w.heap.size w w' := by
  rcases kinds9 k with rfl | rfl | rfl | rfl | rfl | rfl | rfl | rfl | rfl | ⟨h0, h1, h2, h3, h4, h5, h6, h7, h8⟩
  all_goals
    simp [hasT, *] at h
    obtain ⟨rfl, rfl, rfl, rfl, rfl, rfl⟩ := h
    go_enter Try.func120, Try.ntmps120
    go_wp2
    exact bodyPost_ret (v := .tuple #[.agg #[.bool _, .bool _, .bool _, .bool _, .bool _], .bool _]) (by simp [results, Try.results120, go_sem]; try exact ⟨rfl, rfl, rfl, rfl, rfl⟩) rfl ⟨rfl, by first | exact (Below.refl _ _).alloc (Nat.le_refl _) _ | exact ((Below.refl _ _).alloc (Nat.le_refl _) _).setCell (Nat.le_refl _) _⟩
theorem box35 {w : World} {b T : Nat} {c0 c1 c2 c3 c4 c5 : Value} (h : w.heap[b]? = some (.cells #[c0, c1, c2, c3, c4, c5] T (0, 0))) : w.cell? ⟨b, 0, none⟩ = some c0 ∧ w.cell? ⟨b, 1, none⟩ = some c1 ∧ w.cell? ⟨b, 2, none⟩ = some c2 ∧ w.cell? ⟨b, 3, none⟩ = some c3 ∧ w.cell? ⟨b, 4, none⟩ = some c4 ∧ w.cell? ⟨b, 5, none⟩ = some c5 := by
  refine ⟨?_, ?_, ?_, ?_, ?_, ?_⟩ <;> (rw [cell_of_row w b _ _ _ _ h]; rfl)
theorem box5 {w : World} {b T : Nat} {c0 c1 c2 c3 c4 : Value} (h : w.heap[b]? = some (.cells #[c0, c1, c2, c3, c4] T (0, 0))) : w.cell? ⟨b, 0, none⟩ = some c0 ∧ w.cell? ⟨b, 1, none⟩ = some c1 ∧ w.cell? ⟨b, 2, none⟩ = some c2 ∧ w.cell? ⟨b, 3, none⟩ = some c3 ∧ w.cell? ⟨b, 4, none⟩ = some c4 := by
  refine ⟨?_, ?_, ?_, ?_, ?_⟩ <;> (rw [cell_of_row w b _ _ _ _ h]; rfl)
theorem ret_i {k : IntKind} {b c : Int} (h : b = c) : Ending.returned (.int k b) = .returned (.int k c) := by rw [h]
end Go.Proofs.Ytogpnkkoablmiaa.V
