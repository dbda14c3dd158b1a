/- FieldsPuts: whichever number in whichever width: the program and the document's answer tell the same bytes, or the same error. No conditions. -/
import Derived.Test.YthgjlpibefghhaaHb
namespace Go.Proofs.Ythgjlpibefghhaa.Pure
open Go.RowKit Go.Proofs.Ythgjlpibefghhaa.Q Go.Proofs.Ythgjlpibefghhaa.H Go.Proofs.YthgjlpibefghhaaW.PrintWords Go.Proofs.YthgjlpibefghhaaW.PrintLast

theorem FieldsPuts : binderylaw03_FieldsPuts.Pure := by
  intro a0 a1 h0 h1
  refine ⟨20, ?_⟩
  unfold binderylaw03_FieldsPuts.f
  rw [put_eq a0 a1 (wf_lt h0).1, refPut_eq a0 a1 (wf_lt h0).1 20 (by omega)]
  simp [binderylaw03_wide.f]
end Go.Proofs.Ythgjlpibefghhaa.Pure
