/- An argument of the type []El, opened. No condition. -/
import Derived.Test.YtpofjfnlchpmbaaCtxOpen
import Derived.Test.YtpofjfnlchpmbaaCtxList
namespace Go.Proofs.Ytpofjfnlchpmbaa.Ctx
open Go.RowKit Go.Proofs.Ytpofjfnlchpmbaa.PContextTells Go.Proofs.YtpofjfnlchpmbaaW.PrintWords Go.Proofs.YtpofjfnlchpmbaaW.PrintLast
theorem openEl : Opens.Opens Try.prog kEl 40 := by
  intro H enc w base spare held fuel cs x h
  obtain ⟨y0, y1, n, -, hl, e0, e1⟩ := ChangeShapes.trod_struct2 Try.underlying40 h
  obtain ⟨u, hu⟩ := Opens.opens_int Try.underlying3 e0
  obtain ⟨v, hv⟩ := opens_bool Try.underlying4 e1
  have hl2 : cs.length = 2 := hl.trans (by kernel_rfl)
  refine ⟨(u, v), (cs.drop 0).take 1, (cs.drop 1).take 1, ?_, hu, hv⟩
  match cs, hl2 with
  | [a, b], _ => rfl
theorem openEls : Opens.Opens Try.prog (Kd.slice 40 kEl) 30 := Opens.opens_slice Try.underlying30 (by kernel_rfl) openEl
end Go.Proofs.Ytpofjfnlchpmbaa.Ctx
