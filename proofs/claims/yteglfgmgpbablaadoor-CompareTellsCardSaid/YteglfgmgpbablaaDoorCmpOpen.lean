/- Arguments of the types []Node and []int, opened; the world in which the library's tables are laid. No condition. -/
import Derived.Test.YteglfgmgpbablaaDoorOpens
import Derived.Test.YteglfgmgpbablaaDoorRows
import Derived.Deep.Strs
import Derived.Deep.DeepLaidRun
import Derived.ChangeArms
import Derived.WideShapes
import Derived.SizedLaws
namespace Go.Proofs.YteglfgmgpbablaaDoor.Cmp
open Go.RowKit Go.ChangeShapes Go.WideShapes Go.Proofs.YteglfgmgpbablaaDoor.PCompareTells Go.Proofs.YteglfgmgpbablaaDoorW.PrintWords Go.Proofs.YteglfgmgpbablaaDoorW.PrintLast
theorem trod_struct6 {H : Type} {enc : TypeId × Value → H} {P : Program} {w : World} {base : Nat} {spare : Nat → Bool} {held : Bool} {t : TypeId} {f0 f1 f2 f3 f4 f5 : Field} {fuel : Nat} {cs : List Value} {x : DataW H × List MemPlace} (ht : P.underlying t = some (.struct #[f0, f1, f2, f3, f4, f5])) (h : DataW.trod enc P w base spare held fuel t cs = some x) :
    ∃ y0 y1 y2 y3 y4 y5 n, cs.length = P.cellsOf t ∧ DataW.trod enc P w base spare held n f0.type ((cs.drop f0.offset).take (P.cellsOf f0.type)) = some y0 ∧
      DataW.trod enc P w base spare held n f1.type ((cs.drop f1.offset).take (P.cellsOf f1.type)) = some y1 ∧ DataW.trod enc P w base spare held n f2.type ((cs.drop f2.offset).take (P.cellsOf f2.type)) = some y2 ∧
      DataW.trod enc P w base spare held n f3.type ((cs.drop f3.offset).take (P.cellsOf f3.type)) = some y3 ∧ DataW.trod enc P w base spare held n f4.type ((cs.drop f4.offset).take (P.cellsOf f4.type)) = some y4 ∧
      DataW.trod enc P w base spare held n f5.type ((cs.drop f5.offset).take (P.cellsOf f5.type)) = some y5 := by
  obtain ⟨xs, n, _, rfl, hl, hlen, hf⟩ := DataW.trod_struct ht h
  match xs, hlen with
  | [y0, y1, y2, y3, y4, y5], _ => exact ⟨y0, y1, y2, y3, y4, y5, n, hl, by simpa using hf 0 f0 rfl, by simpa using hf 1 f1 rfl, by simpa using hf 2 f2 rfl, by simpa using hf 3 f3 rfl, by simpa using hf 4 f4 rfl, by simpa using hf 5 f5 rfl⟩
theorem openAttr : Opens.Opens Tryd.prog k47 47 :=
  Opens.opens_pair2 (mk := fun p => (⟨p.1, p.2⟩ : S47)) (fun _ => rfl) Tryd.underlying47 (by kernel_rfl) (by kernel_rfl) (by kernel_rfl) (by kernel_rfl) (by kernel_rfl) (Opens.opens_string Tryd.underlying9) (Opens.opens_string Tryd.underlying9)
theorem openAttrs : Opens.Opens Tryd.prog (Kd.slice 47 k47) 23 := Opens.opens_slice Tryd.underlying23 (by kernel_rfl) openAttr
theorem opens_bool {P : Program} {t : TypeId} (ht : P.underlying t = some .bool) : Opens.Opens P Kd.bool t := by
  intro H enc w base spare held fuel cs x h
  obtain ⟨s, rfl, _⟩ := DataW.trod_bool ht h
  exact ⟨s, rfl⟩
set_option maxRecDepth 100000 in
theorem openNode : Opens.Opens Tryd.prog k45 45 := by
  intro H enc w base spare held fuel cs x h
  obtain ⟨y0, y1, y2, y3, y4, y5, n, hl, e0, e1, e2, e3, e4, e5⟩ := trod_struct6 Tryd.underlying45 h
  obtain ⟨u0, h0⟩ := Opens.opens_int Tryd.underlying3 e0
  obtain ⟨u1, h1⟩ := Opens.opens_int Tryd.underlying3 e1
  obtain ⟨u2, h2⟩ := Opens.opens_int Tryd.underlying3 e2
  obtain ⟨u3, h3⟩ := opens_bool Tryd.underlying4 e3
  obtain ⟨u4, h4⟩ := Opens.opens_string Tryd.underlying9 e4
  obtain ⟨u5, h5⟩ := openAttrs e5
  have hl6 : cs.length = 6 := hl.trans (by kernel_rfl)
  match cs, hl6 with
  | [a, b, c, d, e, f], _ =>
    exact ⟨(⟨u0, u1, u2, u3, u4, u5⟩ : S45), [a], [b, c, d, e, f], rfl, h0, [b], [c, d, e, f], rfl, h1, [c], [d, e, f], rfl, h2, [d], [e, f], rfl, h3, [e], [f], rfl, h4, h5⟩
theorem openNodes : Opens.Opens Tryd.prog (Kd.slice 45 k45) 22 := Opens.opens_slice Tryd.underlying22 (by kernel_rfl) openNode
theorem openInts : Opens.Opens Tryd.prog (Kd.slice 3 (Kd.int .i64)) 31 := Opens.opens_slice Tryd.underlying31 (by kernel_rfl) (Opens.opens_int Tryd.underlying3)
/-- The cells of a datum that is laid. -/
def laidCells : DataW Unit → Array Value
  | .agg l => (l.map (fun d => match d with | .lit (.int k n) => .int k n | _ => .int .i64 0)).toArray
  | _ => #[]
/-- The plain start, with the library's tables laid. -/
noncomputable def laidWorld (os : Os) : World :=
  let w0 := World.holding Tryd.prog os ⟨#[], #[], []⟩
  { w0 with heap := ((w0.heap.modify 0 fun
      | .cells _ t frozen => .cells (laidCells Rows.laid_internal_strconv_uint64pow10) t frozen
      | o => o).modify 1 fun
      | .cells _ t frozen => .cells (laidCells Rows.laid_math_bits_deBruijn32tab) t frozen
      | o => o).modify 2 fun
      | .cells _ t frozen => .cells (laidCells Rows.laid_math_bits_deBruijn64tab) t frozen
      | o => o }
def laid3 : List (String × DataW Unit) := [("math/bits.deBruijn32tab", Rows.laid_math_bits_deBruijn32tab), ("math/bits.deBruijn64tab", Rows.laid_math_bits_deBruijn64tab), ("internal/strconv.uint64pow10", Rows.laid_internal_strconv_uint64pow10)]
theorem laidWorld_met (os : Os) (args : Array Value) : laidMet Tryd.prog laid3 ((laidWorld os).forCall (fun _ _ => 0) ⟨#[], args, []⟩).memory :=
  laidMet_of_run3 8 (by kernel_rfl) (by kernel_rfl) (by kernel_rfl)
theorem own : ownKnob Tryd.prog.godebug = none := by kernel_rfl
theorem laidOut : laidOutB Tryd.prog = true := by kernel_rfl
end Go.Proofs.YteglfgmgpbablaaDoor.Cmp
