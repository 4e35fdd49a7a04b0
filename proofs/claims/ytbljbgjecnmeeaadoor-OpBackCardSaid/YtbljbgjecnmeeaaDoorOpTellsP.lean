/- Plain laws for OpTells: what op says of an operation is what the document says; short operations. -/
import Derived.Test.YtbljbgjecnmeeaaDoorOpMade
import Derived.Test.YtbljbgjecnmeeaaDoorOpBytesW
import Derived.Test.YtbljbgjecnmeeaaDoorOpLine
import Derived.Test.YtbljbgjecnmeeaaDoorOpRef
import Derived.Test.YtbljbgjecnmeeaaDoorOpKeep
import Derived.Test.YtbljbgjecnmeeaaDoorOpOwnP
namespace Go.Proofs.YtbljbgjecnmeeaaDoor.OpP
open Go.RowKit Go.Proofs.YtbljbgjecnmeeaaDoor.POpTells Go.Proofs.YtbljbgjecnmeeaaDoorW.PrintWords Go.Proofs.YtbljbgjecnmeeaaDoorW.PrintLast
set_option linter.unusedVariables false
set_option linter.unusedSimpArgs false
theorem digL_eq (n : Int) (h : -4611686018427387904 ≤ n) : digL n = Lib.itoa n := by unfold digL; rw [if_neg (by omega)]
/-- No number is too low: the two texts are the same. -/
theorem line_text (o : S24) (h0 : -4611686018427387904 ≤ o.f0) (h1 : -4611686018427387904 ≤ o.f1) (h2 : -4611686018427387904 ≤ o.f2) (h3 : -4611686018427387904 ≤ o.f3) (h4 : -4611686018427387904 ≤ o.f4) (h5 : -4611686018427387904 ≤ o.f5) : lineL o = textL o := by
  unfold lineL lineH textL headP numP
  rw [digL_eq _ h0, digL_eq _ h1, digL_eq _ h2, digL_eq _ h3, digL_eq _ h4, digL_eq _ h5]
  simp
theorem toListInj {a b : ByteArray} (h : a.toList = b.toList) : a = b := by
  rw [ByteArray.toList_eq, ByteArray.toList_eq] at h
  exact ByteArray.ext (Array.toList_inj.1 h)
/-- The six numbers, in the order of the tests. -/
def lowB (o : S24) : Bool := decide (-4611686018427387904 < o.f1) && (decide (-4611686018427387904 < o.f2) && (decide (-4611686018427387904 < o.f3) && (decide (-4611686018427387904 < o.f0) && (decide (-4611686018427387904 < o.f4) && decide (-4611686018427387904 < o.f5)))))
theorem o9 {w2 W : World} {g : Nat} {a0 a1 a2 a3 a4 a5 a6 a7 a8 : Value} (h : w2.heap[g]? = some (.cells #[a0, a1, a2, a3, a4, a5, a6, a7, a8] 24 (0, 0))) (hb : Below w2.heap.size w2 W) : W.cell? ⟨g, 0, none⟩ = some a0 ∧ W.cell? ⟨g, 1, none⟩ = some a1 ∧ W.cell? ⟨g, 2, none⟩ = some a2 ∧ W.cell? ⟨g, 3, none⟩ = some a3 ∧ W.cell? ⟨g, 4, none⟩ = some a4 ∧ W.cell? ⟨g, 5, none⟩ = some a5 ∧ W.cell? ⟨g, 6, none⟩ = some a6 ∧ W.cell? ⟨g, 7, none⟩ = some a7 ∧ W.cell? ⟨g, 8, none⟩ = some a8 ∧ Below w2.heap.size w2 W := by
  have h' := (hb.block _ (blk_lt h)).trans h
  exact ⟨cell_of_row _ _ 0 _ _ _ h', cell_of_row _ _ 1 _ _ _ h', cell_of_row _ _ 2 _ _ _ h', cell_of_row _ _ 3 _ _ _ h', cell_of_row _ _ 4 _ _ _ h', cell_of_row _ _ 5 _ _ _ h', cell_of_row _ _ 6 _ _ _ h', cell_of_row _ _ 7 _ _ _ h', cell_of_row _ _ 8 _ _ _ h', hb⟩
/-- An operation as it comes out of 'made': its texts and lists are short. -/
structure Small (o : S24) : Prop where
  i : I64 o.f0 ∧ I64 o.f1 ∧ I64 o.f2 ∧ I64 o.f3 ∧ I64 o.f4 ∧ I64 o.f5
  s6 : o.f6.size ≤ 20
  s7 : o.f7 = [] ∨ ∃ l, o.f7 = shortL l
  s8 : o.f8.size ≤ 30
theorem small_made (o : S24) (tm : Bool) (kd : Int) (hi : I64 o.f0 ∧ I64 o.f1 ∧ I64 o.f2 ∧ I64 o.f3 ∧ I64 o.f4 ∧ I64 o.f5) : Small (madeL o tm kd) := by
  unfold madeL
  cases tm with
  | true =>
    rw [if_pos rfl]
    have h := tame_made o (withL kd 1000 % 11)
    exact ⟨tame_i64 h, h.s6, h.s7, h.s8⟩
  | false =>
    rw [if_neg (by decide)]
    exact ⟨hi, capL_size _ _, .inr ⟨_, rfl⟩, capL_size _ _⟩
theorem lineL_len (o : S24) (h : Small o) : (lineL o).length ≤ 100000 := by
  have a := digL_len _ h.i.1
  have b := digL_len _ h.i.2.1
  have c := digL_len _ h.i.2.2.1
  have d := digL_len _ h.i.2.2.2.1
  have e := digL_len _ h.i.2.2.2.2.1
  have f := digL_len _ h.i.2.2.2.2.2
  have s6 := h.s6
  have s8 := h.s8
  have h7 : (o.f7.flatMap attrSeg).length ≤ 312 := by
    rcases h.s7 with h | ⟨l, h⟩
    · rw [h]; simp
    · rw [h]; exact short_seg l
  unfold lineL lineH
  simp only [List.length_append, List.length_cons, List.length_nil, bts_size]
  omega
theorem short_enc (l : List S32) : ((shortL l).flatMap encA).length ≤ 336 := by
  have h : ∀ m : List S32, ((m.map fun x => (⟨capL x.f0 20, capL x.f1 30⟩ : S32)).flatMap encA).length ≤ 56 * m.length := by
    intro m
    induction m with
    | nil => simp
    | cons x m ih =>
      have a := capL_size x.f0 20
      have b := capL_size x.f1 30
      simp only [List.map_cons, List.flatMap_cons, List.length_append, List.length_cons]
      have hx : (encA ⟨capL x.f0 20, capL x.f1 30⟩).length = (3 + (capL x.f0 20).size) + (3 + (capL x.f1 30).size) := by unfold encA; rw [List.length_append, txt_length, txt_length]
      rw [hx]
      omega
  have := h (l.take 6)
  have hl : (l.take 6).length ≤ 6 := by rw [List.length_take]; omega
  unfold shortL
  omega
theorem encO_len (o : S24) (h : Small o) : (encO o).length ≤ 1000 := by
  have s6 := h.s6
  have s8 := h.s8
  have h7 : (o.f7.flatMap encA).length ≤ 336 := by
    rcases h.s7 with h | ⟨l, h⟩
    · rw [h]; simp
    · rw [h]; exact short_enc l
  unfold encO encH
  simp only [List.length_append, be_length, txt_length]
  omega
theorem short_fits (l : List S32) : (shortL l).any longB = false := by
  unfold shortL
  rw [List.any_eq_false]
  intro x hx
  obtain ⟨y, -, rfl⟩ := List.mem_map.1 hx
  have a := capL_size y.f0 20
  have b := capL_size y.f1 30
  unfold longB
  rw [decide_eq_false (by dsimp only; omega), decide_eq_false (by dsimp only; omega)]
  decide
theorem small_fits (o : S24) (h : Small o) : fitsB o = true := by
  have s6 := h.s6
  have s8 := h.s8
  unfold fitsB
  rw [decide_eq_true (by omega), decide_eq_true (by omega)]
  rcases h.s7 with h | ⟨l, h⟩
  · rw [h]; rfl
  · have := shortL_length l
    rw [h, short_fits, decide_eq_true (by omega)]
    rfl
end Go.Proofs.YtbljbgjecnmeeaaDoor.OpP
