/- Arguments of the type []api.Attr and api.Attr, opened. -/
import Derived.Test.YtgjnopabdipleaaOpens
import Derived.Test.YtgjnopabdipleaaAttrsFind
namespace Go.Proofs.Ytgjnopabdipleaa.Attrs
open Go.RowKit Go.Proofs.Ytgjnopabdipleaa.PAttrsTells Go.Proofs.YtgjnopabdipleaaW.PrintWords Go.Proofs.YtgjnopabdipleaaW.PrintLast
theorem openAttr : Opens.Opens Try.prog k29 29 :=
  Opens.opens_pair2 (mk := fun p => (⟨p.1, p.2⟩ : S29)) (fun _ => rfl) Try.underlying29 (by kernel_rfl) (by kernel_rfl) (by kernel_rfl) (by kernel_rfl) (by kernel_rfl) (Opens.opens_string Try.underlying9) (Opens.opens_string Try.underlying9)
theorem openList : Opens.Opens Try.prog (Kd.slice 29 k29) 22 := Opens.opens_slice Try.underlying22 (by kernel_rfl) openAttr
end Go.Proofs.Ytgjnopabdipleaa.Attrs
