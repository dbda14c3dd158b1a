/- FieldsGets: of whichever bytes and numbers: the program and the document's answer tell the same number, or error, and the same width. No conditions. -/
import Derived.Test.YthgjlpibefghhaaHb
namespace Go.Proofs.Ythgjlpibefghhaa.Pure
open Go.RowKit Go.Proofs.Ythgjlpibefghhaa.Q Go.Proofs.Ythgjlpibefghhaa.H Go.Proofs.YthgjlpibefghhaaW.PrintWords Go.Proofs.YthgjlpibefghhaaW.PrintLast

theorem FieldsGets : binderylaw03_FieldsGets.Pure := by
  intro a0 l1 hs hl hl8 hw
  refine ⟨12 * l1.length + 100 + 1, ?_⟩
  have hj : ∀ b, binderylaw03_FieldsGets.j0 (12 * l1.length + 100 + 1) a0 l1 b = some true := by
    intro b
    simp only [binderylaw03_FieldsGets.j0]
    cases b with
    | true => simp [binderylaw03_wide.f]
    | false =>
      rw [get_eq a0 _ (by omega), refGet_eq a0 _ (by omega)]
      rw [refNeed_eq l1 (fun x hx => (wf_lt (hw x hx)).1) (by omega) _ (by omega)]
      simp [binderylaw03_wide.f, fields_Need.f, G.Need.f]
  unfold binderylaw03_FieldsGets.f
  split
  · exact hj _
  · exact hj _
end Go.Proofs.Ythgjlpibefghhaa.Pure
