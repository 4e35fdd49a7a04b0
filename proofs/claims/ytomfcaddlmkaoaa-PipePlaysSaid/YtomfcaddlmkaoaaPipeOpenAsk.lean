/- An argument of the type []Ask, opened. No condition. -/
import Derived.Test.YtomfcaddlmkaoaaPipeOpen
import Derived.Deep.Strs
namespace Go.Proofs.Ytomfcaddlmkaoaa.Pipe
open Go.RowKit Go.ChangeShapes Go.WideShapes Go.Proofs.YtomfcaddlmkaoaaW.PrintWords Go.Proofs.YtomfcaddlmkaoaaW.PrintLast
abbrev kAsk : Kd (Int × Int × List Int) := Kd.pair (Kd.int .i64) (Kd.pair (Kd.int .i64) (Kd.slice 3 (Kd.int .i64)))
theorem cut3 (cs : List Value) (hl : cs.length = 3) {a b c : List Value} (ha : (cs.drop 0).take 1 = a) (hb : (cs.drop 1).take 1 = b) (hc : (cs.drop 2).take 1 = c) : cs = a ++ (b ++ c) := by
  subst ha; subst hb; subst hc
  match cs, hl with
  | [x, y, z], _ => rfl
theorem openAsk : Opens.Opens Try.prog kAsk 37 := by
  intro H enc w base spare held fuel cs x h
  obtain ⟨y0, y1, y2, n, rfl, hl, e0, e1, e2⟩ := Deep.trod_struct3 Try.underlying37 h
  obtain ⟨u, hu⟩ := Opens.opens_int Try.underlying3 e0
  obtain ⟨v, hv⟩ := Opens.opens_int Try.underlying3 e1
  obtain ⟨z, hz⟩ := openInts e2
  exact ⟨(u, v, z), _, _, cut3 cs (hl.trans (by kernel_rfl)) rfl rfl rfl, hu, _, _, rfl, hv, hz⟩
theorem openAsks : Opens.Opens Try.prog (Kd.slice 37 kAsk) 34 := Opens.opens_slice Try.underlying34 (by kernel_rfl) openAsk
/-- The cells of one Ask. -/
theorem ask_open {w : World} {x : Int × Int × List Int} {cs : List Value} (h : kAsk.K w x cs) : ∃ A c, cs = [.int .i64 x.1, .int .i64 x.2.1, .slice A x.2.2.length c] ∧ x.2.2.length ≤ c ∧ (Kd.int .i64).C w A x.2.2.length x.2.2 := by
  obtain ⟨c0, c1, rfl, h0, c2, c3, rfl, h1, A, c, rfl, hl, hC⟩ := h
  have e0 : c0 = [.int .i64 x.1] := h0
  have e1 : c2 = [.int .i64 x.2.1] := h1
  subst e0; subst e1
  exact ⟨A, c, rfl, hl, hC⟩
end Go.Proofs.Ytomfcaddlmkaoaa.Pipe
