/- An argument of the type api.Attr, opened. -/
import Derived.Test.YtgjnopabdipleaaAttrsOpen
import Derived.WideShapes
namespace Go.Proofs.Ytgjnopabdipleaa.Attrs
open Go.RowKit Go.ChangeShapes Go.WideShapes Go.Proofs.Ytgjnopabdipleaa.PAttrsTells Go.Proofs.YtgjnopabdipleaaW.PrintWords Go.Proofs.YtgjnopabdipleaaW.PrintLast
theorem openA {W : World} {r} {base base' : Nat} {spare : Nat → Bool} {held : Bool} {v : Value} {H : Type} {enc : TypeId × Value → H} {x : DataW H} {ps : List MemPlace} (ok : Value.okWide Try.prog W r base 29 v) (h : DataW.Trod enc Try.prog W base' spare held 29 v x ps) : ∃ a b, v = .agg #[.string a, .string b] := by
  obtain ⟨cs, rfl, _⟩ := okWide_struct Try.underlying29 ok
  obtain ⟨fuel, hf⟩ := h
  obtain ⟨y, hy⟩ := openAttr hf
  have e : cs.toList = [.string y.f0, .string y.f1] := k29_open hy
  refine ⟨y.f0, y.f1, ?_⟩
  have e2 : cs = #[.string y.f0, .string y.f1] := by rw [← Array.toArray_toList (xs := cs), e]
  rw [e2]
end Go.Proofs.Ytgjnopabdipleaa.Attrs
