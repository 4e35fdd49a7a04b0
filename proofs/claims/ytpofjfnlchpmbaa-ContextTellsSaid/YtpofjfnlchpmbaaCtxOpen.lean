/- Arguments of the types api.Context and []El, opened. No condition. -/
import Derived.Test.YtpofjfnlchpmbaaOpens
import Derived.Deep.Strs
import Derived.ChangeArms
import Derived.WideShapes
namespace Go.Proofs.Ytpofjfnlchpmbaa.Ctx
open Go.RowKit Go.ChangeShapes Go.WideShapes Go.Proofs.Ytpofjfnlchpmbaa.PContextTells Go.Proofs.YtpofjfnlchpmbaaW.PrintWords Go.Proofs.YtpofjfnlchpmbaaW.PrintLast
theorem openAttr : Opens.Opens Try.prog k44 44 :=
  Opens.opens_pair2 (mk := fun p => (⟨p.1, p.2⟩ : S44)) (fun _ => rfl) Try.underlying44 (by kernel_rfl) (by kernel_rfl) (by kernel_rfl) (by kernel_rfl) (by kernel_rfl) (Opens.opens_string Try.underlying9) (Opens.opens_string Try.underlying9)
theorem openAttrs : Opens.Opens Try.prog (Kd.slice 44 k44) 22 := Opens.opens_slice Try.underlying22 (by kernel_rfl) openAttr
theorem cut3 (cs : List Value) (hl : cs.length = 3) {a b c : List Value} (ha : (cs.drop 0).take 1 = a) (hb : (cs.drop 1).take 1 = b) (hc : (cs.drop 2).take 1 = c) : cs = a ++ (b ++ c) := by
  subst ha; subst hb; subst hc
  match cs, hl with
  | [x, y, z], _ => rfl
theorem openCtx {W : World} {r} {base base' : Nat} {spare : Nat → Bool} {held : Bool} {v : Value} {H : Type} {enc : TypeId × Value → H} {x : DataW H} {ps : List MemPlace} (ok : Value.okWide Try.prog W r base 24 v) (h : DataW.Trod enc Try.prog W base' spare held 24 v x ps) :
    ∃ n s A c, ∃ l : List S44, v = .agg #[.int .i64 n, .string s, .slice A l.length c] ∧ l.length ≤ c ∧ k44.C W A l.length l := by
  obtain ⟨cs, rfl, _⟩ := okWide_struct Try.underlying24 ok
  obtain ⟨fuel, hf⟩ := h
  obtain ⟨y0, y1, y2, n, -, hl, e0, e1, e2⟩ := Deep.trod_struct3 Try.underlying24 hf
  obtain ⟨u, hu⟩ := Opens.opens_int Try.underlying3 e0
  obtain ⟨s, hs⟩ := Opens.opens_string Try.underlying9 e1
  obtain ⟨z, A, c, hz, hlc, hC⟩ := openAttrs e2
  have e := cut3 _ (hl.trans (by kernel_rfl)) hu hs hz
  refine ⟨u, s, A, c, z, ?_, hlc, hC⟩
  have e3 : cs = #[.int .i64 u, .string s, .slice A z.length c] := by
    rw [← Array.toArray_toList (xs := cs)]
    exact congrArg List.toArray e
  rw [e3]
theorem opens_bool {P : Program} {t : TypeId} (ht : P.underlying t = some .bool) : Opens.Opens P Kd.bool t := by
  intro H enc w base spare held fuel cs x h
  obtain ⟨s, rfl, _⟩ := DataW.trod_bool ht h
  exact ⟨s, rfl⟩
end Go.Proofs.Ytpofjfnlchpmbaa.Ctx
