/- Arguments of the type []byte, opened, with the bounds of their bytes. No condition. -/
import Derived.Test.YtbljbgjecnmeeaaDoorOpOpen
import Derived.Test.YtbljbgjecnmeeaaDoorOpBackW
namespace Go.Proofs.YtbljbgjecnmeeaaDoor.OpP
open Go.RowKit Go.ChangeShapes Go.WideShapes Go.Proofs.YtbljbgjecnmeeaaDoor.POpTells Go.Proofs.YtbljbgjecnmeeaaDoorW.PrintWords Go.Proofs.YtbljbgjecnmeeaaDoorW.PrintLast
set_option linter.unusedVariables false
namespace Back
/-- A kind of which something more is known. -/
def subK {α : Type} (d : Kd α) (φ : α → Prop) : Kd α where
  sz := d.sz
  E := d.E
  K := fun w x cs => d.K w x cs ∧ φ x
  M := fun w base ok x cs => d.M w base ok x cs ∧ φ x
  K_len := fun h => d.K_len h.1
  K_one := fun h => d.K_one h.1
  K_below := fun hb h => ⟨d.K_below hb h.1, h.2⟩
  K_of_M := fun h => ⟨d.K_of_M h.1, h.2⟩
  M_mono := fun hk h => ⟨d.M_mono hk h.1, h.2⟩
  M_bound := fun h => ⟨d.M_bound h.1, h.2⟩
  M_move := fun hm h => ⟨d.M_move hm h.1, h.2⟩
  M_lower := fun hb h => ⟨d.M_lower hb h.1, h.2⟩
theorem subK_C {α : Type} {d : Kd α} {φ : α → Prop} {w : World} {A : Option Addr} {l : List α} (h : Kd.C (subK d φ) w A l.length l) : Kd.C d w A l.length l ∧ ∀ x ∈ l, φ x := by
  refine ⟨⟨h.1, h.2.1, fun h0 => ?_⟩, fun x hx => ?_⟩
  · obtain ⟨ad, hA, hc⟩ := h.2.2 h0
    refine ⟨ad, hA, fun j p hj => ?_⟩
    obtain ⟨c, hl, hK, hcc⟩ := hc j p hj
    exact ⟨c, hl, hK.1, hcc⟩
  · obtain ⟨j, hj, rfl⟩ := List.mem_iff_getElem.1 hx
    obtain ⟨ad, hA, hc⟩ := h.2.2 (by omega)
    obtain ⟨c, hl, hK, hcc⟩ := hc j _ (List.getElem?_eq_getElem hj)
    exact hK.2
theorem u8_wf {n : Int} (h : (Lit.int .u8 n).wf = true) : 0 ≤ n ∧ n < 256 := by
  have h' : (decide (0 ≤ n) && decide (n ≤ 255)) = true := h
  simp only [Bool.and_eq_true, decide_eq_true_eq] at h'
  omega
theorem opens_u8 {P : Program} {t : TypeId} (ht : P.underlying t = some (.int .u8)) : Opens.Opens P (subK (Kd.int .u8) (fun x => 0 ≤ x ∧ x < 256)) t := by
  intro H enc w base spare held fuel cs x h
  obtain ⟨a, rfl, _, hw⟩ := DataW.trod_int ht h
  exact ⟨a, rfl, u8_wf hw⟩
theorem openBytes : Opens.Opens Tryd.prog (Kd.slice 5 (subK (Kd.int .u8) (fun x => 0 ≤ x ∧ x < 256))) 36 := Opens.opens_slice Tryd.underlying36 (by kernel_rfl) (opens_u8 Tryd.underlying5)
theorem opBackA (A : Option Addr) (c : Nat) (l : List S26) (at_ turn : Int) (ct : Bool) (X : Option Addr) (cx : Nat) (xs : List Int) (w : World) (h : Kd.C k26 w A l.length l ∧ l.length ≤ c) (h2 : Kd.C (subK (Kd.int .u8) (fun x => 0 ≤ x ∧ x < 256)) w X xs.length xs ∧ xs.length ≤ cx) (ht : TabOk w) (wa : (Lit.int .i64 at_).wf = true) (wt : (Lit.int .u8 turn).wf = true) :
    Calls Tryd.prog 6 #[.slice A l.length c, .int .i64 at_, .int .u8 turn, .bool ct, .slice X xs.length cx] w fun e w' => e = .returned (.bool true) ∧ Below w.heap.size w w' :=
  opBack l A c at_ turn ct X cx xs w h ⟨(subK_C h2.1).1, h2.2⟩ (subK_C h2.1).2 (u8_wf wt) ht
end Back
end Go.Proofs.YtbljbgjecnmeeaaDoor.OpP
