/- Arguments of the type []Raw, opened, with the bounds of their numbers. No condition. -/
import Derived.Test.YtbljbgjecnmeeaaDoorOpOpen
import Derived.Test.YtbljbgjecnmeeaaDoorOpTellsW
namespace Go.Proofs.YtbljbgjecnmeeaaDoor.OpP
open Go.RowKit Go.ChangeShapes Go.WideShapes Go.Proofs.YtbljbgjecnmeeaaDoor.POpTells Go.Proofs.YtbljbgjecnmeeaaDoorW.PrintWords Go.Proofs.YtbljbgjecnmeeaaDoorW.PrintLast
/-- A kind of which something more is known. -/
def subK {α : Type} (d : Kd α) (φ : α → Prop) : Kd α where
  sz := d.sz
  E := d.E
  K := fun w x cs => d.K w x cs ∧ φ x
  M := fun w base ok x cs => d.M w base ok x cs ∧ φ x
  K_len := fun h => d.K_len h.1
  K_one := fun h => d.K_one h.1
  K_below := fun hb h => ⟨d.K_below hb h.1, h.2⟩
  K_of_M := fun h => ⟨d.K_of_M h.1, h.2⟩
  M_mono := fun hk h => ⟨d.M_mono hk h.1, h.2⟩
  M_bound := fun h => ⟨d.M_bound h.1, h.2⟩
  M_move := fun hm h => ⟨d.M_move hm h.1, h.2⟩
  M_lower := fun hb h => ⟨d.M_lower hb h.1, h.2⟩
theorem subK_C {α : Type} {d : Kd α} {φ : α → Prop} {w : World} {A : Option Addr} {l : List α} (h : Kd.C (subK d φ) w A l.length l) : Kd.C d w A l.length l ∧ ∀ x ∈ l, φ x := by
  refine ⟨⟨h.1, h.2.1, fun h0 => ?_⟩, fun x hx => ?_⟩
  · obtain ⟨ad, hA, hc⟩ := h.2.2 h0
    refine ⟨ad, hA, fun j p hj => ?_⟩
    obtain ⟨c, hl, hK, hcc⟩ := hc j p hj
    exact ⟨c, hl, hK.1, hcc⟩
  · obtain ⟨j, hj, rfl⟩ := List.mem_iff_getElem.1 hx
    obtain ⟨ad, hA, hc⟩ := h.2.2 (by omega)
    obtain ⟨c, hl, hK, hcc⟩ := hc j _ (List.getElem?_eq_getElem hj)
    exact hK.2
/-- The numbers of a Raw's operation are within bounds. -/
def OkO (o : S24) : Prop := I64 o.f0 ∧ I64 o.f1 ∧ I64 o.f2 ∧ I64 o.f3 ∧ I64 o.f4 ∧ I64 o.f5
theorem i64_wf {n : Int} (h : (Lit.int .i64 n).wf = true) : I64 n := by
  have h' : (decide (-9223372036854775808 ≤ n) && decide (n ≤ 9223372036854775807)) = true := h
  unfold I64
  simpa using h'
theorem opens_i64 {P : Program} {t : TypeId} (ht : P.underlying t = some (.int .i64)) : Opens.Opens P (subK (Kd.int .i64) I64) t := by
  intro H enc w base spare held fuel cs x h
  obtain ⟨a, rfl, _, hw⟩ := DataW.trod_int ht h
  exact ⟨a, rfl, i64_wf hw⟩
set_option maxRecDepth 100000 in
theorem openOpI : Opens.Opens Tryd.prog (subK k24 OkO) 24 := by
  intro H enc w base spare held fuel cs x h
  obtain ⟨y0, y1, y2, y3, y4, y5, y6, y7, y8, n, hl, e0, e1, e2, e3, e4, e5, e6, e7, e8⟩ := trod_struct9 Tryd.underlying24 h
  obtain ⟨u0, h0, i0⟩ := opens_i64 Tryd.underlying3 e0
  obtain ⟨u1, h1, i1⟩ := opens_i64 Tryd.underlying3 e1
  obtain ⟨u2, h2, i2⟩ := opens_i64 Tryd.underlying3 e2
  obtain ⟨u3, h3, i3⟩ := opens_i64 Tryd.underlying3 e3
  obtain ⟨u4, h4, i4⟩ := opens_i64 Tryd.underlying3 e4
  obtain ⟨u5, h5, i5⟩ := opens_i64 Tryd.underlying3 e5
  obtain ⟨u6, h6⟩ := Opens.opens_string Tryd.underlying9 e6
  obtain ⟨u7, h7⟩ := openAttrs e7
  obtain ⟨u8, h8⟩ := Opens.opens_string Tryd.underlying9 e8
  have hl9 : cs.length = 9 := hl.trans (by kernel_rfl)
  match cs, hl9 with
  | [a, b, c, d, e, f, g, i, j], _ =>
    exact ⟨(⟨u0, u1, u2, u3, u4, u5, u6, u7, u8⟩ : S24), ⟨[a], [b, c, d, e, f, g, i, j], rfl, h0, [b], [c, d, e, f, g, i, j], rfl, h1, [c], [d, e, f, g, i, j], rfl, h2, [d], [e, f, g, i, j], rfl, h3, [e], [f, g, i, j], rfl, h4, [f], [g, i, j], rfl, h5, [g], [i, j], rfl, h6, [i], [j], rfl, h7, h8⟩, ⟨i0, i1, i2, i3, i4, i5⟩⟩
set_option maxRecDepth 100000 in
theorem openRawI : Opens.Opens Tryd.prog (subK k26 (fun x => OkO x.f0)) 26 := by
  intro H enc w base spare held fuel cs x h
  obtain ⟨y0, y1, y2, n, hl, e0, e1, e2⟩ := trod_struct3 Tryd.underlying26 h
  obtain ⟨u0, h0, i0⟩ := openOpI e0
  obtain ⟨u1, h1⟩ := opens_bool Tryd.underlying4 e1
  obtain ⟨u2, h2⟩ := Opens.opens_int Tryd.underlying3 e2
  have hl11 : cs.length = 11 := hl.trans (by kernel_rfl)
  match cs, hl11 with
  | [a, b, c, d, e, f, g, i, j, k, l], _ =>
    exact ⟨(⟨u0, u1, u2⟩ : S26), ⟨[a, b, c, d, e, f, g, i, j], [k, l], rfl, h0, [k], [l], rfl, h1, h2⟩, i0⟩
theorem openRawsI : Opens.Opens Tryd.prog (Kd.slice 26 (subK k26 (fun x => OkO x.f0))) 42 := Opens.opens_slice Tryd.underlying42 (by kernel_rfl) openRawI
theorem opTellsA (A : Option Addr) (c : Nat) (l : List S26) (w : World) (h : Kd.C (subK k26 (fun x => OkO x.f0)) w A l.length l ∧ l.length ≤ c) (ht : TabOk w) :
    Calls Tryd.prog 5 #[.slice A l.length c] w fun e w' => e = .returned (.bool true) ∧ Below w.heap.size w w' :=
  opTells l A c w ⟨(subK_C h.1).1, h.2⟩ (subK_C h.1).2 ht
end Go.Proofs.YtbljbgjecnmeeaaDoor.OpP
