/- Arguments of the types []int, []string, []bool, opened. No condition. -/
import Derived.Test.YtomfcaddlmkaoaaOpens
import Derived.ChangeArms
namespace Go.Proofs.Ytomfcaddlmkaoaa.Pipe
open Go.RowKit Go.ChangeShapes Go.WideShapes Go.Proofs.YtomfcaddlmkaoaaW.PrintWords Go.Proofs.YtomfcaddlmkaoaaW.PrintLast
theorem openInts : Opens.Opens Try.prog (Kd.slice 3 (Kd.int .i64)) 22 := Opens.opens_slice Try.underlying22 (by kernel_rfl) (Opens.opens_int Try.underlying3)
theorem openTexts : Opens.Opens Try.prog (Kd.slice 9 Kd.string) 40 := Opens.opens_slice Try.underlying40 (by kernel_rfl) (Opens.opens_string Try.underlying9)
theorem opens_bool {P : Program} {t : TypeId} (ht : P.underlying t = some .bool) : Opens.Opens P Kd.bool t := by
  intro H enc w base spare held fuel cs x h
  obtain ⟨s, rfl, _⟩ := DataW.trod_bool ht h
  exact ⟨s, rfl⟩
theorem openBools : Opens.Opens Try.prog (Kd.slice 4 Kd.bool) 41 := Opens.opens_slice Try.underlying41 (by kernel_rfl) (opens_bool Try.underlying4)
end Go.Proofs.Ytomfcaddlmkaoaa.Pipe
