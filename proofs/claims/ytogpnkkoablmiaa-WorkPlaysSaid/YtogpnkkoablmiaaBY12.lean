/- Parts of the proof: what the theorem reaches, put together by a program of this session. -/
import Derived.BigGuardPart
import Derived.Test.YtogpnkkoablmiaaBY11
namespace Go.Proofs.Ytogpnkkoablmiaa.V
open Go.RowKit Go.Proofs.Ytogpnkkoablmiaa.Q Go.Proofs.YtogpnkkoablmiaaW.PrintWords Go.Proofs.YtogpnkkoablmiaaW.PrintLast Go.Proofs.YtogpnkkoablmiaaW.PrintMore
set_option linter.unusedVariables false
set_option linter.unusedSimpArgs false
set_option maxHeartbeats 16000000 in
set_option maxRecDepth 100000 in
theorem extra_calls (f0 f1 f2 : Int) (f3 : ByteArray) (L D : Nat) (A4 : Option Addr) (c4 : Nat) (A5 : Option Addr) (c5 : Nat) (w : World) : Calls Try.prog 174 #[.agg #[.int .i64 f0, .int .i64 f1, .int .i64 f2, .string f3, .slice A4 L c4, .slice A5 D c5]] w fun e w' => e = .returned (.bool (extraB f0 f1 f2 f3 L D)) ∧ Below w.heap.size w w' := by
 have hu35 := Try.underlying35
 have HB := fun x => Aside0.mk ((Below.refl w.heap.size w).alloc (Nat.le_refl _) x)
 have hS : f3.toList = [] ∨ (¬ f3.toList = [] ∧ (!f3.toList.isEmpty) = true) := by cases f3.toList <;> simp
 rcases (show f1 = 0 ∨ (f1 ≠ 0 ∧ f0 = 1) ∨ (f1 ≠ 0 ∧ f0 = 2) ∨ (f1 ≠ 0 ∧ f0 = 7) ∨ (f1 ≠ 0 ∧ f0 ≠ 1 ∧ f0 ≠ 2 ∧ f0 ≠ 7) by omega) with rfl | ⟨hN, rfl⟩ | ⟨hN, rfl⟩ | ⟨hN, rfl⟩ | ⟨hN, h1, h2, h7⟩
 case' inl =>
  rcases (show f2 = 0 ∨ (f2 ≠ 0 ∧ f0 = 7) ∨ (f2 ≠ 0 ∧ f0 ≠ 7) by omega) with rfl | ⟨hG, rfl⟩ | ⟨hG, hG7⟩
 case' inr.inr.inr.inl =>
  by_cases hG : f2 = 0
 case' inl.inl =>
  rcases (show f3.toList = [] ∨ ((!f3.toList.isEmpty) = true ∧ ¬ f3.toList = [] ∧ f0 = 3) ∨ ((!f3.toList.isEmpty) = true ∧ ¬ f3.toList = [] ∧ f0 = 4) ∨ ((!f3.toList.isEmpty) = true ∧ ¬ f3.toList = [] ∧ f0 = 8) ∨ ((!f3.toList.isEmpty) = true ∧ ¬ f3.toList = [] ∧ f0 ≠ 3 ∧ f0 ≠ 4 ∧ f0 ≠ 8) by
   rcases hS with h | ⟨h, h'⟩
   · exact .inl h
   · rcases (show f0 = 3 ∨ f0 = 4 ∨ f0 = 8 ∨ (f0 ≠ 3 ∧ f0 ≠ 4 ∧ f0 ≠ 8) by omega) with k | k | k | k <;> simp [h, h', k]) with hS0 | ⟨hS1, hS2, rfl⟩ | ⟨hS1, hS2, rfl⟩ | ⟨hS1, hS2, rfl⟩ | ⟨hS1, hS2, h3, h4, h8⟩
 case' inl.inl.inl =>
  rcases (show L = 0 ∨ (0 < L ∧ f0 = 5) ∨ (0 < L ∧ f0 ≠ 5) by omega) with rfl | ⟨hL, rfl⟩ | ⟨hL, hL5⟩
 case' inl.inl.inl.inl =>
  rcases (show D = 0 ∨ (0 < D ∧ f0 = 6) ∨ (0 < D ∧ f0 = 8) ∨ (0 < D ∧ f0 ≠ 6 ∧ f0 ≠ 8) by omega) with rfl | ⟨hD, rfl⟩ | ⟨hD, rfl⟩ | ⟨hD, hD6, hD8⟩
 all_goals
  clear hS
  go_enter Try.func174, Try.ntmps174
  simp only [List.append_eq, List.cons_append, List.nil_append, List.append]
  go_wp2
  all_goals
   go_ret
   refine ⟨ret_b ?_, (HB _).out⟩
   clear HB
   simp_all [extraB]
   all_goals first | omega | exact Or.inl (by omega)
end Go.Proofs.Ytogpnkkoablmiaa.V
