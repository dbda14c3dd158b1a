/- CrcMore: of whichever numbers and text: the program and the document's answer tell the same sum, or error, of More and of Join. No conditions. -/
import Derived.Test.YtncfjogmggofgaaHb
namespace Go.Proofs.Ytncfjogmggofgaa.Pure
set_option linter.unusedVariables false
set_option linter.unusedSimpArgs false
open Go.RowKit Go.Proofs.Ytncfjogmggofgaa.Q Go.Proofs.Ytncfjogmggofgaa.H Go.Proofs.YtncfjogmggofgaaW.PrintWords Go.Proofs.YtncfjogmggofgaaW.PrintLast

theorem CrcMore : binderylaw04_CrcMore.Pure := by
  intro a0 a1 a2 a3 h0 h1 h2 hs
  have hj : ∀ b, ((b = false) → a3.size ≤ 2000 ∧ a2 ≤ 3000) → binderylaw04_CrcMore.j0 6000 a0 a1 a2 a3 b = some true := by
    intro b hb
    simp only [binderylaw04_CrcMore.j0]
    cases b with
    | true => simp [binderylaw04_sums.f]
    | false =>
      obtain ⟨hb1, hb2⟩ := hb rfl
      rw [more_eq a0 a3 hs, refMore_eq a0 a3 hs _ (by omega), join_f a0 a1 a2 (by omega), refJoin_eq a0 a1 a2 (by omega) _ (by omega)]
      simp [binderylaw04_sums.f]
  refine ⟨6000, ?_⟩
  unfold binderylaw04_CrcMore.f
  split
  · exact hj _ (by simp)
  · exact hj _ (fun h => by simp at h; omega)
end Go.Proofs.Ytncfjogmggofgaa.Pure
