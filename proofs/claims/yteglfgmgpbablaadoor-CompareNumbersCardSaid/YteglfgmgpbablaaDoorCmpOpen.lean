/- From a reading of an argument as data to what its cells say, kind by kind. No condition. Arguments of the types []Node and []int, opened; the world in which the library's tables are laid. No condition. -/
import Derived.Test.YteglfgmgpbablaaDoorPCompareTellsx0
import Derived.ProofKit
import Derived.OpenShut
import Derived.Deep.Slices
import Derived.Test.YteglfgmgpbablaaDoorRows
import Derived.Deep.Strs
import Derived.Deep.DeepLaidRun
import Derived.ChangeArms
import Derived.WideShapes
import Derived.SizedLaws
namespace Go.Proofs.YteglfgmgpbablaaDoor.Opens
open Go.RowKit Go.ChangeShapes Go.WideShapes Go.Proofs.YteglfgmgpbablaaDoorW.PrintWords Go.Proofs.YteglfgmgpbablaaDoorW.PrintLast

/-- Whatever reads as data at type t is of kind d. -/
def Opens (P : Program) {α : Type} (d : Kd α) (t : TypeId) : Prop :=
  ∀ {H : Type} {enc : TypeId × Value → H} {w : World} {base : Nat} {spare : Nat → Bool} {held : Bool} {fuel : Nat} {cs : List Value} {x : DataW H × List MemPlace}, DataW.trod enc P w base spare held fuel t cs = some x → ∃ y : α, d.K w y cs

theorem opens_string {P : Program} {t : TypeId} (ht : P.underlying t = some .string) : Opens P Kd.string t := by
  intro H enc w base spare held fuel cs x h
  obtain ⟨s, rfl, _⟩ := DataW.trod_string ht h
  exact ⟨s, rfl⟩
theorem opens_int {P : Program} {t : TypeId} {k : IntKind} (ht : P.underlying t = some (.int k)) : Opens P (Kd.int k) t := by
  intro H enc w base spare held fuel cs x h
  obtain ⟨a, rfl, _, _⟩ := DataW.trod_int ht h
  exact ⟨a, rfl⟩

theorem list_of {α : Type} {q : Nat → α → Prop} : ∀ n, (∀ i, i < n → ∃ y, q i y) → ∃ ys : List α, ys.length = n ∧ ∀ i y, ys[i]? = some y → q i y
  | 0, _ => ⟨[], rfl, fun i y h => by simp at h⟩
  | n + 1, each => by
    obtain ⟨ys, hys, hy⟩ := list_of n (fun i hi => each i (by omega))
    obtain ⟨y, h2⟩ := each n (by omega)
    refine ⟨ys ++ [y], by simp [hys], fun i z hz => ?_⟩
    rcases Nat.lt_or_ge i ys.length with hi | hi
    · rw [List.getElem?_append_left hi] at hz
      exact hy i z hz
    · rw [List.getElem?_append_right hi] at hz
      have hi0 : i - ys.length = 0 := by
        rcases Nat.eq_zero_or_pos (i - ys.length) with h | h
        · exact h
        · rw [List.getElem?_eq_none (by simp; omega)] at hz
          cases hz
      rw [hi0] at hz
      have hzy : y = z := by simpa using hz
      subst hzy
      have : i = n := by omega
      subst this
      exact h2

theorem opens_slice {P : Program} {α : Type} {d : Kd α} {t e : TypeId} (ht : P.underlying t = some (.slice e)) (hc : P.cellsOf e = d.sz) (hd : Opens P d e) : Opens P (Kd.slice e d) t := by
  intro H enc w base spare held fuel cs x h
  rcases Deep.open_slice ht h with ⟨rfl, _⟩ | ⟨a, len, cap, m, n, D, Pl, rfl, _, hl, hm, hmm, _, hel⟩
  · exact ⟨[], none, 0, rfl, Nat.le_refl _, rfl, by simp, fun h => absurd h (by simp)⟩
  · have hlen : len ≤ m := by rw [hmm]; split <;> omega
    have each : ∀ i, i < len → ∃ y, ∃ cs', w.cells? base (a.add (i * P.cellsOf e)) (P.cellsOf e) = some cs' ∧ d.K w y cs' := by
      intro i hi
      obtain ⟨cs', h1, h2⟩ := hel i (by omega)
      obtain ⟨y, hy⟩ := hd h2
      exact ⟨y, cs', h1, hy⟩
    have hall := list_of len each
    obtain ⟨ys, hys, hy⟩ := hall
    refine ⟨ys, some a, cap, by rw [hys], by omega, rfl, by unfold maxLen at hm; omega, fun _ => ⟨a, rfl, fun j p hj => ?_⟩⟩
    obtain ⟨cs', h1, h2⟩ := hy j p hj
    have hsz := d.K_len h2
    refine ⟨cs', hsz, h2, fun i u hu => ?_⟩
    obtain ⟨_, hl2, hcell⟩ := World.cells?_some h1
    rw [← hc, ← Deep.add_add]
    have hi : i < cs'.length := (List.getElem?_eq_some_iff.1 hu).1
    rw [hcell i (by omega)]
    exact hu

theorem opens_pair2 {P : Program} {α β γ : Type} {a : Kd α} {b : Kd β} {g : γ → α × β} {mk : α × β → γ} (hg : ∀ p, g (mk p) = p) {t : TypeId} {f0 f1 : Field} (ht : P.underlying t = some (.struct #[f0, f1])) (h0 : f0.offset = 0) (h1 : f1.offset = a.sz) (hs0 : P.cellsOf f0.type = a.sz) (hs1 : P.cellsOf f1.type = b.sz) (hs : P.cellsOf t = a.sz + b.sz)
    (ha : Opens P a f0.type) (hb : Opens P b f1.type) : Opens P (Kd.iso (Kd.pair a b) g) t := by
  intro H enc w base spare held fuel cs x h
  obtain ⟨y0, y1, n, rfl, hl, e0, e1⟩ := trod_struct2 ht h
  obtain ⟨u, hu⟩ := ha e0
  obtain ⟨v, hv⟩ := hb e1
  refine ⟨mk (u, v), ?_⟩
  show (Kd.pair a b).K w (g (mk (u, v))) cs
  rw [hg]
  refine ⟨_, _, ?_, hu, hv⟩
  rw [h0, h1, hs0, hs1, List.drop_zero]
  have : (cs.drop a.sz).take b.sz = cs.drop a.sz := List.take_of_length_le (by rw [List.length_drop]; omega)
  rw [this, List.take_append_drop]

/-- A slice argument that reads as data: what its cells say, as the walk wants it. -/
theorem slice_arg {P : Program} {α : Type} {d : Kd α} {t e : TypeId} (ho : Opens P (Kd.slice e d) t) {H : Type} {enc : TypeId × Value → H} {w : World} {base : Nat} {spare : Nat → Bool} {held : Bool} {a : Option Addr} {n c : Nat} {x : DataW H} {ps : List MemPlace}
    (h : DataW.Trod enc P w base spare held t (.slice a n c) x ps) : ∃ xs : List α, xs.length = n ∧ n ≤ c ∧ Kd.C d w a xs.length xs := by
  obtain ⟨fuel, hf⟩ := h
  obtain ⟨xs, A, c', hcs, hl, hC⟩ := ho hf
  simp [Value.cells] at hcs
  obtain ⟨rfl, rfl, rfl⟩ := hcs
  exact ⟨xs, rfl, hl, hC⟩
end Go.Proofs.YteglfgmgpbablaaDoor.Opens
namespace Go.Proofs.YteglfgmgpbablaaDoor.Cmp
open Go.RowKit Go.ChangeShapes Go.WideShapes Go.Proofs.YteglfgmgpbablaaDoor.PCompareTells Go.Proofs.YteglfgmgpbablaaDoorW.PrintWords Go.Proofs.YteglfgmgpbablaaDoorW.PrintLast
theorem trod_struct6 {H : Type} {enc : TypeId × Value → H} {P : Program} {w : World} {base : Nat} {spare : Nat → Bool} {held : Bool} {t : TypeId} {f0 f1 f2 f3 f4 f5 : Field} {fuel : Nat} {cs : List Value} {x : DataW H × List MemPlace} (ht : P.underlying t = some (.struct #[f0, f1, f2, f3, f4, f5])) (h : DataW.trod enc P w base spare held fuel t cs = some x) :
    ∃ y0 y1 y2 y3 y4 y5 n, cs.length = P.cellsOf t ∧ DataW.trod enc P w base spare held n f0.type ((cs.drop f0.offset).take (P.cellsOf f0.type)) = some y0 ∧
      DataW.trod enc P w base spare held n f1.type ((cs.drop f1.offset).take (P.cellsOf f1.type)) = some y1 ∧ DataW.trod enc P w base spare held n f2.type ((cs.drop f2.offset).take (P.cellsOf f2.type)) = some y2 ∧
      DataW.trod enc P w base spare held n f3.type ((cs.drop f3.offset).take (P.cellsOf f3.type)) = some y3 ∧ DataW.trod enc P w base spare held n f4.type ((cs.drop f4.offset).take (P.cellsOf f4.type)) = some y4 ∧
      DataW.trod enc P w base spare held n f5.type ((cs.drop f5.offset).take (P.cellsOf f5.type)) = some y5 := by
  obtain ⟨xs, n, _, rfl, hl, hlen, hf⟩ := DataW.trod_struct ht h
  match xs, hlen with
  | [y0, y1, y2, y3, y4, y5], _ => exact ⟨y0, y1, y2, y3, y4, y5, n, hl, by simpa using hf 0 f0 rfl, by simpa using hf 1 f1 rfl, by simpa using hf 2 f2 rfl, by simpa using hf 3 f3 rfl, by simpa using hf 4 f4 rfl, by simpa using hf 5 f5 rfl⟩
theorem openAttr : Opens.Opens Tryd.prog k47 47 :=
  Opens.opens_pair2 (mk := fun p => (⟨p.1, p.2⟩ : S47)) (fun _ => rfl) Tryd.underlying47 (by kernel_rfl) (by kernel_rfl) (by kernel_rfl) (by kernel_rfl) (by kernel_rfl) (Opens.opens_string Tryd.underlying9) (Opens.opens_string Tryd.underlying9)
theorem openAttrs : Opens.Opens Tryd.prog (Kd.slice 47 k47) 23 := Opens.opens_slice Tryd.underlying23 (by kernel_rfl) openAttr
theorem opens_bool {P : Program} {t : TypeId} (ht : P.underlying t = some .bool) : Opens.Opens P Kd.bool t := by
  intro H enc w base spare held fuel cs x h
  obtain ⟨s, rfl, _⟩ := DataW.trod_bool ht h
  exact ⟨s, rfl⟩
set_option maxRecDepth 100000 in
theorem openNode : Opens.Opens Tryd.prog k45 45 := by
  intro H enc w base spare held fuel cs x h
  obtain ⟨y0, y1, y2, y3, y4, y5, n, hl, e0, e1, e2, e3, e4, e5⟩ := trod_struct6 Tryd.underlying45 h
  obtain ⟨u0, h0⟩ := Opens.opens_int Tryd.underlying3 e0
  obtain ⟨u1, h1⟩ := Opens.opens_int Tryd.underlying3 e1
  obtain ⟨u2, h2⟩ := Opens.opens_int Tryd.underlying3 e2
  obtain ⟨u3, h3⟩ := opens_bool Tryd.underlying4 e3
  obtain ⟨u4, h4⟩ := Opens.opens_string Tryd.underlying9 e4
  obtain ⟨u5, h5⟩ := openAttrs e5
  have hl6 : cs.length = 6 := hl.trans (by kernel_rfl)
  match cs, hl6 with
  | [a, b, c, d, e, f], _ =>
    exact ⟨(⟨u0, u1, u2, u3, u4, u5⟩ : S45), [a], [b, c, d, e, f], rfl, h0, [b], [c, d, e, f], rfl, h1, [c], [d, e, f], rfl, h2, [d], [e, f], rfl, h3, [e], [f], rfl, h4, h5⟩
theorem openNodes : Opens.Opens Tryd.prog (Kd.slice 45 k45) 22 := Opens.opens_slice Tryd.underlying22 (by kernel_rfl) openNode
theorem openInts : Opens.Opens Tryd.prog (Kd.slice 3 (Kd.int .i64)) 31 := Opens.opens_slice Tryd.underlying31 (by kernel_rfl) (Opens.opens_int Tryd.underlying3)
/-- The cells of a datum that is laid. -/
def laidCells : DataW Unit → Array Value
  | .agg l => (l.map (fun d => match d with | .lit (.int k n) => .int k n | _ => .int .i64 0)).toArray
  | _ => #[]
/-- The plain start, with the library's tables laid. -/
noncomputable def laidWorld (os : Os) : World :=
  let w0 := World.holding Tryd.prog os ⟨#[], #[], []⟩
  { w0 with heap := ((w0.heap.modify 0 fun
      | .cells _ t frozen => .cells (laidCells Rows.laid_internal_strconv_uint64pow10) t frozen
      | o => o).modify 1 fun
      | .cells _ t frozen => .cells (laidCells Rows.laid_math_bits_deBruijn32tab) t frozen
      | o => o).modify 2 fun
      | .cells _ t frozen => .cells (laidCells Rows.laid_math_bits_deBruijn64tab) t frozen
      | o => o }
def laid3 : List (String × DataW Unit) := [("math/bits.deBruijn32tab", Rows.laid_math_bits_deBruijn32tab), ("math/bits.deBruijn64tab", Rows.laid_math_bits_deBruijn64tab), ("internal/strconv.uint64pow10", Rows.laid_internal_strconv_uint64pow10)]
theorem laidWorld_met (os : Os) (args : Array Value) : laidMet Tryd.prog laid3 ((laidWorld os).forCall (fun _ _ => 0) ⟨#[], args, []⟩).memory :=
  laidMet_of_run3 8 (by kernel_rfl) (by kernel_rfl) (by kernel_rfl)
theorem own : ownKnob Tryd.prog.godebug = none := by kernel_rfl
theorem laidOut : laidOutB Tryd.prog = true := by kernel_rfl
end Go.Proofs.YteglfgmgpbablaaDoor.Cmp
