/- FieldsRows: of whichever numbers, widths and bytes: the program and the document's answer tell the same row, the same numbers, or the same errors. No conditions. -/
import Derived.Test.YthgjlpibefghhaaHc
import Derived.Test.YthgjlpibefghhaaQx5
namespace Go.Proofs.Ythgjlpibefghhaa.Pure
set_option linter.unusedVariables false
set_option linter.unusedSimpArgs false
open Go.RowKit Go.Proofs.Ythgjlpibefghhaa.Q Go.Proofs.Ythgjlpibefghhaa.H Go.Proofs.YthgjlpibefghhaaW.PrintWords Go.Proofs.YthgjlpibefghhaaW.PrintLast

theorem FieldsRows : binderylaw03_FieldsRows.Pure := by
  intro l0 l1 a2 h0 h08 hw0 h1 h18 hw1 hs
  have hj : ∀ b, binderylaw03_FieldsRows.j0 201 l0 l1 a2 b = some true := by
    intro b
    simp only [binderylaw03_FieldsRows.j0]
    cases b with
    | true => simp [binderylaw03_wide.f]
    | false =>
      have hn : ∀ x ∈ l0, x < 9223372036854775808 := fun x hx => (wf_lt (hw0 x hx)).1
      have hc := cutS_length a2 l1
      rw [row_eq l0 l1 hn _ (by omega), refRow_eq l0 l1 hn _ (by omega), cut_eq a2 l1 _ (by omega), refCut_eq a2 hs l1 _ (by omega)]
      simp only [Option.bind_some]
      rw [same_eq _ _ _ (by omega) (by omega)]
      simp [binderylaw03_wide.f]
  refine ⟨201, ?_⟩
  unfold binderylaw03_FieldsRows.f
  split
  · exact hj _
  · split
    · exact hj _
    · exact hj _
end Go.Proofs.Ythgjlpibefghhaa.Pure
