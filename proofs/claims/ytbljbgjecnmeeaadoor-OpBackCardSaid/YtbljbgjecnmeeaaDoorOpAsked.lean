/- The walk of op.asked: an operation with what its Kind names alone. -/
import Derived.Test.YtbljbgjecnmeeaaDoorOpRight0
import Derived.Deep.DeepCutAuto
import Derived.Deep.CutBlock
import Derived.Outline
import Derived.Deep.RegionHeld3
import Derived.RegionTactic
import Derived.ChangeAlike
namespace Go.Proofs.YtbljbgjecnmeeaaDoor.OpP
open Go.RowKit Go.Proofs.YtbljbgjecnmeeaaDoor.POpTells Go.Proofs.YtbljbgjecnmeeaaDoorW.PrintWords Go.Proofs.YtbljbgjecnmeeaaDoorW.PrintLast
set_option linter.unusedVariables false
set_option linter.unusedSimpArgs false
def AskP (w : World) (xs : Array Value) (wx : World) : Prop := wx.heap[w.heap.size + 1 + 1]? = some (.cells xs 24 (0, 0)) ∧ wx.heap[w.heap.size + 1]? = some (.cells #[.int .i64 0, .int .i64 0, .int .i64 0, .int .i64 0, .int .i64 0, .int .i64 0, .string ⟨#[]⟩, .slice none 0 0, .string ⟨#[]⟩] 24 (0, 0)) ∧ Below w.heap.size w wx
set_option maxHeartbeats 4000000 in
set_option maxRecDepth 100000 in
theorem asked1 (o1 o2 o3 o4 o5 : Int) (o6 : ByteArray) (A : Option Addr) (n c : Nat) (o8 : ByteArray) (w : World) :
    Calls Tryd.prog 24 #[.agg #[.int .i64 1, .int .i64 o1, .int .i64 o2, .int .i64 o3, .int .i64 o4, .int .i64 o5, .string o6, .slice A n c, .string o8]] w fun e w' => e = .returned (.tuple #[.agg #[.int .i64 1, .int .i64 o1, .int .i64 0, .int .i64 0, .int .i64 o4, .int .i64 o5, .string o6, .slice A n c, .string o8], .bool true]) ∧ Below w.heap.size w w' := by
  have hX := heap_alloc_new w (.cells #[.int .i64 1, .int .i64 o1, .int .i64 o2, .int .i64 o3, .int .i64 o4, .int .i64 o5, .string o6, .slice A n c, .string o8] 24)
  have b1 := below_alloc (Below.refl w.heap.size w) (.cells #[.int .i64 1, .int .i64 o1, .int .i64 o2, .int .i64 o3, .int .i64 o4, .int .i64 o5, .string o6, .slice A n c, .string o8] 24)
  obtain ⟨w1, hw1⟩ : ∃ w1, w.alloc (.cells #[.int .i64 1, .int .i64 o1, .int .i64 o2, .int .i64 o3, .int .i64 o4, .int .i64 o5, .string o6, .slice A n c, .string o8] 24) = w1 := ⟨_, rfl⟩
  have hs1 : w1.heap.size = w.heap.size + 1 := by rw [← hw1]; simp
  rw [hw1] at hX b1
  have hZ := heap_alloc_new w1 (.cells #[.int .i64 0, .int .i64 0, .int .i64 0, .int .i64 0, .int .i64 0, .int .i64 0, .string ⟨#[]⟩, .slice none 0 0, .string ⟨#[]⟩] 24)
  have b2 := below_alloc (Below.refl w1.heap.size w1) (.cells #[.int .i64 0, .int .i64 0, .int .i64 0, .int .i64 0, .int .i64 0, .int .i64 0, .string ⟨#[]⟩, .slice none 0 0, .string ⟨#[]⟩] 24)
  obtain ⟨w2, hw2⟩ : ∃ w2, w1.alloc (.cells #[.int .i64 0, .int .i64 0, .int .i64 0, .int .i64 0, .int .i64 0, .int .i64 0, .string ⟨#[]⟩, .slice none 0 0, .string ⟨#[]⟩] 24) = w2 := ⟨_, rfl⟩
  have hs2 : w2.heap.size = w.heap.size + 1 + 1 := by rw [← hw2]; simp [hs1]
  rw [hw2] at hZ b2
  rw [hs1] at hZ
  have hX2 := (b2.block _ (blk_lt hX)).trans hX
  have hb2 := below_step b1 b2
  have hO := heap_alloc_new w2 (.cells #[.int .i64 1, .int .i64 0, .int .i64 0, .int .i64 0, .int .i64 0, .int .i64 0, .string ⟨#[]⟩, .slice none 0 0, .string ⟨#[]⟩] 24)
  have b3 := below_alloc (Below.refl w2.heap.size w2) (.cells #[.int .i64 1, .int .i64 0, .int .i64 0, .int .i64 0, .int .i64 0, .int .i64 0, .string ⟨#[]⟩, .slice none 0 0, .string ⟨#[]⟩] 24)
  obtain ⟨w3, hw3⟩ : ∃ w3, w2.alloc (.cells #[.int .i64 1, .int .i64 0, .int .i64 0, .int .i64 0, .int .i64 0, .int .i64 0, .string ⟨#[]⟩, .slice none 0 0, .string ⟨#[]⟩] 24) = w3 := ⟨_, rfl⟩
  rw [hw3] at hO b3
  rw [hs2] at hO
  have hX3 := (b3.block _ (blk_lt hX2)).trans hX2
  have hZ3 := (b3.block _ (blk_lt hZ)).trans hZ
  have HX := hide hX3
  have HZ := hide hZ3
  have HB := hide (below_step hb2 b3)
  have HO := hide hO
  have HW1 := hide hw1
  have HW2 := hide hw2
  have HW3 := hide hw3
  have cX0 : w3.cell? ⟨w.heap.size, 0, none⟩ = some (.int .i64 1) := cell_of_row _ _ 0 _ _ _ hX3
  have cX1 : w3.cell? ⟨w.heap.size, 1, none⟩ = some (.int .i64 o1) := cell_of_row _ _ 1 _ _ _ hX3
  have cX2 : w3.cell? ⟨w.heap.size, 2, none⟩ = some (.int .i64 o2) := cell_of_row _ _ 2 _ _ _ hX3
  have cX3 : w3.cell? ⟨w.heap.size, 3, none⟩ = some (.int .i64 o3) := cell_of_row _ _ 3 _ _ _ hX3
  have cX4 : w3.cell? ⟨w.heap.size, 4, none⟩ = some (.int .i64 o4) := cell_of_row _ _ 4 _ _ _ hX3
  have cX5 : w3.cell? ⟨w.heap.size, 5, none⟩ = some (.int .i64 o5) := cell_of_row _ _ 5 _ _ _ hX3
  have cX6 : w3.cell? ⟨w.heap.size, 6, none⟩ = some (.string o6) := cell_of_row _ _ 6 _ _ _ hX3
  have cX7 : w3.cell? ⟨w.heap.size, 7, none⟩ = some (.slice A n c) := cell_of_row _ _ 7 _ _ _ hX3
  have cX8 : w3.cell? ⟨w.heap.size, 8, none⟩ = some (.string o8) := cell_of_row _ _ 8 _ _ _ hX3
  have cO0 : w3.cell? ⟨w.heap.size + 1 + 1, 0, none⟩ = some (.int .i64 1) := cell_of_row _ _ 0 _ _ _ hO
  have cO1 : w3.cell? ⟨w.heap.size + 1 + 1, 1, none⟩ = some (.int .i64 0) := cell_of_row _ _ 1 _ _ _ hO
  have cO2 : w3.cell? ⟨w.heap.size + 1 + 1, 2, none⟩ = some (.int .i64 0) := cell_of_row _ _ 2 _ _ _ hO
  have cO3 : w3.cell? ⟨w.heap.size + 1 + 1, 3, none⟩ = some (.int .i64 0) := cell_of_row _ _ 3 _ _ _ hO
  have cO4 : w3.cell? ⟨w.heap.size + 1 + 1, 4, none⟩ = some (.int .i64 0) := cell_of_row _ _ 4 _ _ _ hO
  have cO5 : w3.cell? ⟨w.heap.size + 1 + 1, 5, none⟩ = some (.int .i64 0) := cell_of_row _ _ 5 _ _ _ hO
  have cO6 : w3.cell? ⟨w.heap.size + 1 + 1, 6, none⟩ = some (.string ⟨#[]⟩) := cell_of_row _ _ 6 _ _ _ hO
  have cO7 : w3.cell? ⟨w.heap.size + 1 + 1, 7, none⟩ = some (.slice none 0 0) := cell_of_row _ _ 7 _ _ _ hO
  have cO8 : w3.cell? ⟨w.heap.size + 1 + 1, 8, none⟩ = some (.string ⟨#[]⟩) := cell_of_row _ _ 8 _ _ _ hO
  have fO0 := blk_frozen hO 0
  have fO1 := blk_frozen hO 1
  have fO2 := blk_frozen hO 2
  have fO3 := blk_frozen hO 3
  have fO4 := blk_frozen hO 4
  have fO5 := blk_frozen hO 5
  have fO6 := blk_frozen hO 6
  have fO7 := blk_frozen hO 7
  have fO8 := blk_frozen hO 8
  have hzx : w.heap.size + 1 ≠ w.heap.size + 1 + 1 := by omega
  have hwle : w.heap.size ≤ w.heap.size + 1 + 1 := by omega
  have hne1 : ¬ w.heap.size + 1 + 1 = w.heap.size := by omega
  have hne2 : ¬ w.heap.size = w.heap.size + 1 + 1 := by omega
  clear hX hX2 hX3 hZ hZ3 b1 b2 b3 hb2 hO hs1 hs2 hw1 hw2 hw3
  go_enter Tryd.func24, Tryd.ntmps24
  go_upto_region 5 with fail
  rw [HW1.out, HW2.out, HW3.out]
  go_region_held3 (fun W => W.cell? ⟨w.heap.size, 1, none⟩ = some (.int .i64 o1) ∧ W.cell? ⟨w.heap.size, 4, none⟩ = some (.int .i64 o4) ∧ W.cell? ⟨w.heap.size, 5, none⟩ = some (.int .i64 o5) ∧ W.cell? ⟨w.heap.size, 6, none⟩ = some (.string o6) ∧ W.cell? ⟨w.heap.size, 7, none⟩ = some (.slice A n c) ∧ W.cell? ⟨w.heap.size, 8, none⟩ = some (.string o8))
    (first
      | go_keep
      | (go_split_ands; (repeat' apply And.intro) <;> (simp only [World.cell?_drew]; rw [World.cell?_setCell_far]; assumption; (show (_ : Nat) ≠ _; omega))))
    ((first
      | fail))
  have hx0 : (w3.setCell ⟨w.heap.size + 1 + 1, 1, none⟩ (.int .i64 o1)).heap[w.heap.size + 1 + 1]? = some (.cells #[.int .i64 1, .int .i64 o1, .int .i64 0, .int .i64 0, .int .i64 0, .int .i64 0, .string ⟨#[]⟩, .slice none 0 0, .string ⟨#[]⟩] 24 (0, 0)) := blk_set HO.out 1 (.int .i64 o1)
  have hz0 := (Below.heap_setCell w3 ⟨w.heap.size + 1 + 1, 1, none⟩ (.int .i64 o1) (w.heap.size + 1) hzx).trans HZ.out
  have hb0 := HB.out.setCell (p := ⟨w.heap.size + 1 + 1, 1, none⟩) hwle (.int .i64 o1)
  have hx1 : ((w3.setCell ⟨w.heap.size + 1 + 1, 1, none⟩ (.int .i64 o1)).setCell ⟨w.heap.size + 1 + 1, 4, none⟩ (.int .i64 o4)).heap[w.heap.size + 1 + 1]? = some (.cells #[.int .i64 1, .int .i64 o1, .int .i64 0, .int .i64 0, .int .i64 o4, .int .i64 0, .string ⟨#[]⟩, .slice none 0 0, .string ⟨#[]⟩] 24 (0, 0)) := blk_set hx0 4 (.int .i64 o4)
  have hz1 := (Below.heap_setCell (w3.setCell ⟨w.heap.size + 1 + 1, 1, none⟩ (.int .i64 o1)) ⟨w.heap.size + 1 + 1, 4, none⟩ (.int .i64 o4) (w.heap.size + 1) hzx).trans hz0
  have hb1 := hb0.setCell (p := ⟨w.heap.size + 1 + 1, 4, none⟩) hwle (.int .i64 o4)
  have hx2 : (((w3.setCell ⟨w.heap.size + 1 + 1, 1, none⟩ (.int .i64 o1)).setCell ⟨w.heap.size + 1 + 1, 4, none⟩ (.int .i64 o4)).setCell ⟨w.heap.size + 1 + 1, 5, none⟩ (.int .i64 o5)).heap[w.heap.size + 1 + 1]? = some (.cells #[.int .i64 1, .int .i64 o1, .int .i64 0, .int .i64 0, .int .i64 o4, .int .i64 o5, .string ⟨#[]⟩, .slice none 0 0, .string ⟨#[]⟩] 24 (0, 0)) := blk_set hx1 5 (.int .i64 o5)
  have hz2 := (Below.heap_setCell ((w3.setCell ⟨w.heap.size + 1 + 1, 1, none⟩ (.int .i64 o1)).setCell ⟨w.heap.size + 1 + 1, 4, none⟩ (.int .i64 o4)) ⟨w.heap.size + 1 + 1, 5, none⟩ (.int .i64 o5) (w.heap.size + 1) hzx).trans hz1
  have hb2 := hb1.setCell (p := ⟨w.heap.size + 1 + 1, 5, none⟩) hwle (.int .i64 o5)
  have hx3 : ((((w3.setCell ⟨w.heap.size + 1 + 1, 1, none⟩ (.int .i64 o1)).setCell ⟨w.heap.size + 1 + 1, 4, none⟩ (.int .i64 o4)).setCell ⟨w.heap.size + 1 + 1, 5, none⟩ (.int .i64 o5)).setCell ⟨w.heap.size + 1 + 1, 6, none⟩ (.string o6)).heap[w.heap.size + 1 + 1]? = some (.cells #[.int .i64 1, .int .i64 o1, .int .i64 0, .int .i64 0, .int .i64 o4, .int .i64 o5, .string o6, .slice none 0 0, .string ⟨#[]⟩] 24 (0, 0)) := blk_set hx2 6 (.string o6)
  have hz3 := (Below.heap_setCell (((w3.setCell ⟨w.heap.size + 1 + 1, 1, none⟩ (.int .i64 o1)).setCell ⟨w.heap.size + 1 + 1, 4, none⟩ (.int .i64 o4)).setCell ⟨w.heap.size + 1 + 1, 5, none⟩ (.int .i64 o5)) ⟨w.heap.size + 1 + 1, 6, none⟩ (.string o6) (w.heap.size + 1) hzx).trans hz2
  have hb3 := hb2.setCell (p := ⟨w.heap.size + 1 + 1, 6, none⟩) hwle (.string o6)
  have hx4 : (((((w3.setCell ⟨w.heap.size + 1 + 1, 1, none⟩ (.int .i64 o1)).setCell ⟨w.heap.size + 1 + 1, 4, none⟩ (.int .i64 o4)).setCell ⟨w.heap.size + 1 + 1, 5, none⟩ (.int .i64 o5)).setCell ⟨w.heap.size + 1 + 1, 6, none⟩ (.string o6)).setCell ⟨w.heap.size + 1 + 1, 7, none⟩ (.slice A n c)).heap[w.heap.size + 1 + 1]? = some (.cells #[.int .i64 1, .int .i64 o1, .int .i64 0, .int .i64 0, .int .i64 o4, .int .i64 o5, .string o6, .slice A n c, .string ⟨#[]⟩] 24 (0, 0)) := blk_set hx3 7 (.slice A n c)
  have hz4 := (Below.heap_setCell ((((w3.setCell ⟨w.heap.size + 1 + 1, 1, none⟩ (.int .i64 o1)).setCell ⟨w.heap.size + 1 + 1, 4, none⟩ (.int .i64 o4)).setCell ⟨w.heap.size + 1 + 1, 5, none⟩ (.int .i64 o5)).setCell ⟨w.heap.size + 1 + 1, 6, none⟩ (.string o6)) ⟨w.heap.size + 1 + 1, 7, none⟩ (.slice A n c) (w.heap.size + 1) hzx).trans hz3
  have hb4 := hb3.setCell (p := ⟨w.heap.size + 1 + 1, 7, none⟩) hwle (.slice A n c)
  have hx5 : ((((((w3.setCell ⟨w.heap.size + 1 + 1, 1, none⟩ (.int .i64 o1)).setCell ⟨w.heap.size + 1 + 1, 4, none⟩ (.int .i64 o4)).setCell ⟨w.heap.size + 1 + 1, 5, none⟩ (.int .i64 o5)).setCell ⟨w.heap.size + 1 + 1, 6, none⟩ (.string o6)).setCell ⟨w.heap.size + 1 + 1, 7, none⟩ (.slice A n c)).setCell ⟨w.heap.size + 1 + 1, 8, none⟩ (.string o8)).heap[w.heap.size + 1 + 1]? = some (.cells #[.int .i64 1, .int .i64 o1, .int .i64 0, .int .i64 0, .int .i64 o4, .int .i64 o5, .string o6, .slice A n c, .string o8] 24 (0, 0)) := blk_set hx4 8 (.string o8)
  have hz5 := (Below.heap_setCell (((((w3.setCell ⟨w.heap.size + 1 + 1, 1, none⟩ (.int .i64 o1)).setCell ⟨w.heap.size + 1 + 1, 4, none⟩ (.int .i64 o4)).setCell ⟨w.heap.size + 1 + 1, 5, none⟩ (.int .i64 o5)).setCell ⟨w.heap.size + 1 + 1, 6, none⟩ (.string o6)).setCell ⟨w.heap.size + 1 + 1, 7, none⟩ (.slice A n c)) ⟨w.heap.size + 1 + 1, 8, none⟩ (.string o8) (w.heap.size + 1) hzx).trans hz4
  have hb5 := hb4.setCell (p := ⟨w.heap.size + 1 + 1, 8, none⟩) hwle (.string o8)
  have hx := blk_drew hx5
  have hz := blk_drew hz5
  have hb := below_drew1 hb5
  clear hx0 hz0 hb0 hx1 hz1 hb1 hx2 hz2 hb2 hx3 hz3 hb3 hx4 hz4 hb4 hx5 hz5 hb5
  obtain ⟨wq, hwq⟩ : ∃ wq, ((((((w3.setCell ⟨w.heap.size + 1 + 1, 1, none⟩ (.int .i64 o1)).setCell ⟨w.heap.size + 1 + 1, 4, none⟩ (.int .i64 o4)).setCell ⟨w.heap.size + 1 + 1, 5, none⟩ (.int .i64 o5)).setCell ⟨w.heap.size + 1 + 1, 6, none⟩ (.string o6)).setCell ⟨w.heap.size + 1 + 1, 7, none⟩ (.slice A n c)).setCell ⟨w.heap.size + 1 + 1, 8, none⟩ (.string o8)).drew = wq := ⟨_, rfl⟩
  rw [hwq] at hx hz hb ⊢
  clear hwq
  clear HX HW1 HW2 HW3 HO HZ HB cX0 cO0 fO0 cX1 cO1 fO1 cX2 cO2 fO2 cX3 cO3 fO3 cX4 cO4 fO4 cX5 cO5 fO5 cX6 cO6 fO6 cX7 cO7 fO7 cX8 cO8 fO8
  have cQ0 : wq.cell? ⟨w.heap.size + 1 + 1, 0, none⟩ = some (.int .i64 1) := cell_of_row _ _ 0 _ _ _ hx
  have cQ1 : wq.cell? ⟨w.heap.size + 1 + 1, 1, none⟩ = some (.int .i64 o1) := cell_of_row _ _ 1 _ _ _ hx
  have cQ2 : wq.cell? ⟨w.heap.size + 1 + 1, 2, none⟩ = some (.int .i64 0) := cell_of_row _ _ 2 _ _ _ hx
  have cQ3 : wq.cell? ⟨w.heap.size + 1 + 1, 3, none⟩ = some (.int .i64 0) := cell_of_row _ _ 3 _ _ _ hx
  have cQ4 : wq.cell? ⟨w.heap.size + 1 + 1, 4, none⟩ = some (.int .i64 o4) := cell_of_row _ _ 4 _ _ _ hx
  have cQ5 : wq.cell? ⟨w.heap.size + 1 + 1, 5, none⟩ = some (.int .i64 o5) := cell_of_row _ _ 5 _ _ _ hx
  have cQ6 : wq.cell? ⟨w.heap.size + 1 + 1, 6, none⟩ = some (.string o6) := cell_of_row _ _ 6 _ _ _ hx
  have cQ7 : wq.cell? ⟨w.heap.size + 1 + 1, 7, none⟩ = some (.slice A n c) := cell_of_row _ _ 7 _ _ _ hx
  have cQ8 : wq.cell? ⟨w.heap.size + 1 + 1, 8, none⟩ = some (.string o8) := cell_of_row _ _ 8 _ _ _ hx
  have cZ0 : wq.cell? ⟨w.heap.size + 1, 0, none⟩ = some (.int .i64 0) := cell_of_row _ _ 0 _ _ _ hz
  have cZ1 : wq.cell? ⟨w.heap.size + 1, 1, none⟩ = some (.int .i64 0) := cell_of_row _ _ 1 _ _ _ hz
  have cZ2 : wq.cell? ⟨w.heap.size + 1, 2, none⟩ = some (.int .i64 0) := cell_of_row _ _ 2 _ _ _ hz
  have cZ3 : wq.cell? ⟨w.heap.size + 1, 3, none⟩ = some (.int .i64 0) := cell_of_row _ _ 3 _ _ _ hz
  have cZ4 : wq.cell? ⟨w.heap.size + 1, 4, none⟩ = some (.int .i64 0) := cell_of_row _ _ 4 _ _ _ hz
  have cZ5 : wq.cell? ⟨w.heap.size + 1, 5, none⟩ = some (.int .i64 0) := cell_of_row _ _ 5 _ _ _ hz
  have cZ6 : wq.cell? ⟨w.heap.size + 1, 6, none⟩ = some (.string ⟨#[]⟩) := cell_of_row _ _ 6 _ _ _ hz
  have cZ7 : wq.cell? ⟨w.heap.size + 1, 7, none⟩ = some (.slice none 0 0) := cell_of_row _ _ 7 _ _ _ hz
  have cZ8 : wq.cell? ⟨w.heap.size + 1, 8, none⟩ = some (.string ⟨#[]⟩) := cell_of_row _ _ 8 _ _ _ hz
  have fZ0 := blk_frozen hz 0
  have fZ1 := blk_frozen hz 1
  have fZ2 := blk_frozen hz 2
  have fZ3 := blk_frozen hz 3
  have fZ4 := blk_frozen hz 4
  have fZ5 := blk_frozen hz 5
  have fZ6 := blk_frozen hz 6
  have fZ7 := blk_frozen hz 7
  have fZ8 := blk_frozen hz 8
  have HZ := hide hz
  have HB := hide hb
  clear hx hz hb hne1 hne2 hzx hwle
  go_wp2_with fail
  exact ⟨rfl, _, res_op2 (set9_blk HZ.out (.int .i64 1) (.int .i64 o1) (.int .i64 0) (.int .i64 0) (.int .i64 o4) (.int .i64 o5) (.string o6) (.slice A n c) (.string o8)) 2 3 _ rfl rfl rfl, rfl, set9_below HB.out (by omega) (.int .i64 1) (.int .i64 o1) (.int .i64 0) (.int .i64 0) (.int .i64 o4) (.int .i64 o5) (.string o6) (.slice A n c) (.string o8)⟩

set_option maxHeartbeats 4000000 in
set_option maxRecDepth 100000 in
theorem asked2 (o1 o2 o3 o4 o5 : Int) (o6 : ByteArray) (A : Option Addr) (n c : Nat) (o8 : ByteArray) (w : World) :
    Calls Tryd.prog 24 #[.agg #[.int .i64 2, .int .i64 o1, .int .i64 o2, .int .i64 o3, .int .i64 o4, .int .i64 o5, .string o6, .slice A n c, .string o8]] w fun e w' => e = .returned (.tuple #[.agg #[.int .i64 2, .int .i64 o1, .int .i64 o2, .int .i64 0, .int .i64 0, .int .i64 0, .string ⟨#[]⟩, .slice none 0 0, .string ⟨#[]⟩], .bool true]) ∧ Below w.heap.size w w' := by
  have hX := heap_alloc_new w (.cells #[.int .i64 2, .int .i64 o1, .int .i64 o2, .int .i64 o3, .int .i64 o4, .int .i64 o5, .string o6, .slice A n c, .string o8] 24)
  have b1 := below_alloc (Below.refl w.heap.size w) (.cells #[.int .i64 2, .int .i64 o1, .int .i64 o2, .int .i64 o3, .int .i64 o4, .int .i64 o5, .string o6, .slice A n c, .string o8] 24)
  obtain ⟨w1, hw1⟩ : ∃ w1, w.alloc (.cells #[.int .i64 2, .int .i64 o1, .int .i64 o2, .int .i64 o3, .int .i64 o4, .int .i64 o5, .string o6, .slice A n c, .string o8] 24) = w1 := ⟨_, rfl⟩
  have hs1 : w1.heap.size = w.heap.size + 1 := by rw [← hw1]; simp
  rw [hw1] at hX b1
  have hZ := heap_alloc_new w1 (.cells #[.int .i64 0, .int .i64 0, .int .i64 0, .int .i64 0, .int .i64 0, .int .i64 0, .string ⟨#[]⟩, .slice none 0 0, .string ⟨#[]⟩] 24)
  have b2 := below_alloc (Below.refl w1.heap.size w1) (.cells #[.int .i64 0, .int .i64 0, .int .i64 0, .int .i64 0, .int .i64 0, .int .i64 0, .string ⟨#[]⟩, .slice none 0 0, .string ⟨#[]⟩] 24)
  obtain ⟨w2, hw2⟩ : ∃ w2, w1.alloc (.cells #[.int .i64 0, .int .i64 0, .int .i64 0, .int .i64 0, .int .i64 0, .int .i64 0, .string ⟨#[]⟩, .slice none 0 0, .string ⟨#[]⟩] 24) = w2 := ⟨_, rfl⟩
  have hs2 : w2.heap.size = w.heap.size + 1 + 1 := by rw [← hw2]; simp [hs1]
  rw [hw2] at hZ b2
  rw [hs1] at hZ
  have hX2 := (b2.block _ (blk_lt hX)).trans hX
  have hb2 := below_step b1 b2
  have hO := heap_alloc_new w2 (.cells #[.int .i64 2, .int .i64 0, .int .i64 0, .int .i64 0, .int .i64 0, .int .i64 0, .string ⟨#[]⟩, .slice none 0 0, .string ⟨#[]⟩] 24)
  have b3 := below_alloc (Below.refl w2.heap.size w2) (.cells #[.int .i64 2, .int .i64 0, .int .i64 0, .int .i64 0, .int .i64 0, .int .i64 0, .string ⟨#[]⟩, .slice none 0 0, .string ⟨#[]⟩] 24)
  obtain ⟨w3, hw3⟩ : ∃ w3, w2.alloc (.cells #[.int .i64 2, .int .i64 0, .int .i64 0, .int .i64 0, .int .i64 0, .int .i64 0, .string ⟨#[]⟩, .slice none 0 0, .string ⟨#[]⟩] 24) = w3 := ⟨_, rfl⟩
  rw [hw3] at hO b3
  rw [hs2] at hO
  have hX3 := (b3.block _ (blk_lt hX2)).trans hX2
  have hZ3 := (b3.block _ (blk_lt hZ)).trans hZ
  have HX := hide hX3
  have HZ := hide hZ3
  have HB := hide (below_step hb2 b3)
  have HO := hide hO
  have HW1 := hide hw1
  have HW2 := hide hw2
  have HW3 := hide hw3
  have cX0 : w3.cell? ⟨w.heap.size, 0, none⟩ = some (.int .i64 2) := cell_of_row _ _ 0 _ _ _ hX3
  have cX1 : w3.cell? ⟨w.heap.size, 1, none⟩ = some (.int .i64 o1) := cell_of_row _ _ 1 _ _ _ hX3
  have cX2 : w3.cell? ⟨w.heap.size, 2, none⟩ = some (.int .i64 o2) := cell_of_row _ _ 2 _ _ _ hX3
  have cX3 : w3.cell? ⟨w.heap.size, 3, none⟩ = some (.int .i64 o3) := cell_of_row _ _ 3 _ _ _ hX3
  have cX4 : w3.cell? ⟨w.heap.size, 4, none⟩ = some (.int .i64 o4) := cell_of_row _ _ 4 _ _ _ hX3
  have cX5 : w3.cell? ⟨w.heap.size, 5, none⟩ = some (.int .i64 o5) := cell_of_row _ _ 5 _ _ _ hX3
  have cX6 : w3.cell? ⟨w.heap.size, 6, none⟩ = some (.string o6) := cell_of_row _ _ 6 _ _ _ hX3
  have cX7 : w3.cell? ⟨w.heap.size, 7, none⟩ = some (.slice A n c) := cell_of_row _ _ 7 _ _ _ hX3
  have cX8 : w3.cell? ⟨w.heap.size, 8, none⟩ = some (.string o8) := cell_of_row _ _ 8 _ _ _ hX3
  have cO0 : w3.cell? ⟨w.heap.size + 1 + 1, 0, none⟩ = some (.int .i64 2) := cell_of_row _ _ 0 _ _ _ hO
  have cO1 : w3.cell? ⟨w.heap.size + 1 + 1, 1, none⟩ = some (.int .i64 0) := cell_of_row _ _ 1 _ _ _ hO
  have cO2 : w3.cell? ⟨w.heap.size + 1 + 1, 2, none⟩ = some (.int .i64 0) := cell_of_row _ _ 2 _ _ _ hO
  have cO3 : w3.cell? ⟨w.heap.size + 1 + 1, 3, none⟩ = some (.int .i64 0) := cell_of_row _ _ 3 _ _ _ hO
  have cO4 : w3.cell? ⟨w.heap.size + 1 + 1, 4, none⟩ = some (.int .i64 0) := cell_of_row _ _ 4 _ _ _ hO
  have cO5 : w3.cell? ⟨w.heap.size + 1 + 1, 5, none⟩ = some (.int .i64 0) := cell_of_row _ _ 5 _ _ _ hO
  have cO6 : w3.cell? ⟨w.heap.size + 1 + 1, 6, none⟩ = some (.string ⟨#[]⟩) := cell_of_row _ _ 6 _ _ _ hO
  have cO7 : w3.cell? ⟨w.heap.size + 1 + 1, 7, none⟩ = some (.slice none 0 0) := cell_of_row _ _ 7 _ _ _ hO
  have cO8 : w3.cell? ⟨w.heap.size + 1 + 1, 8, none⟩ = some (.string ⟨#[]⟩) := cell_of_row _ _ 8 _ _ _ hO
  have fO0 := blk_frozen hO 0
  have fO1 := blk_frozen hO 1
  have fO2 := blk_frozen hO 2
  have fO3 := blk_frozen hO 3
  have fO4 := blk_frozen hO 4
  have fO5 := blk_frozen hO 5
  have fO6 := blk_frozen hO 6
  have fO7 := blk_frozen hO 7
  have fO8 := blk_frozen hO 8
  have hzx : w.heap.size + 1 ≠ w.heap.size + 1 + 1 := by omega
  have hwle : w.heap.size ≤ w.heap.size + 1 + 1 := by omega
  have hne1 : ¬ w.heap.size + 1 + 1 = w.heap.size := by omega
  have hne2 : ¬ w.heap.size = w.heap.size + 1 + 1 := by omega
  clear hX hX2 hX3 hZ hZ3 b1 b2 b3 hb2 hO hs1 hs2 hw1 hw2 hw3
  go_enter Tryd.func24, Tryd.ntmps24
  go_upto_region 7 with fail
  rw [HW1.out, HW2.out, HW3.out]
  go_region_held3 (fun W => W.cell? ⟨w.heap.size, 1, none⟩ = some (.int .i64 o1) ∧ W.cell? ⟨w.heap.size, 2, none⟩ = some (.int .i64 o2))
    (first
      | go_keep
      | (go_split_ands; (repeat' apply And.intro) <;> (simp only [World.cell?_drew]; rw [World.cell?_setCell_far]; assumption; (show (_ : Nat) ≠ _; omega))))
    ((first
      | fail))
  have hx0 : (w3.setCell ⟨w.heap.size + 1 + 1, 1, none⟩ (.int .i64 o1)).heap[w.heap.size + 1 + 1]? = some (.cells #[.int .i64 2, .int .i64 o1, .int .i64 0, .int .i64 0, .int .i64 0, .int .i64 0, .string ⟨#[]⟩, .slice none 0 0, .string ⟨#[]⟩] 24 (0, 0)) := blk_set HO.out 1 (.int .i64 o1)
  have hz0 := (Below.heap_setCell w3 ⟨w.heap.size + 1 + 1, 1, none⟩ (.int .i64 o1) (w.heap.size + 1) hzx).trans HZ.out
  have hb0 := HB.out.setCell (p := ⟨w.heap.size + 1 + 1, 1, none⟩) hwle (.int .i64 o1)
  have hx1 : ((w3.setCell ⟨w.heap.size + 1 + 1, 1, none⟩ (.int .i64 o1)).setCell ⟨w.heap.size + 1 + 1, 2, none⟩ (.int .i64 o2)).heap[w.heap.size + 1 + 1]? = some (.cells #[.int .i64 2, .int .i64 o1, .int .i64 o2, .int .i64 0, .int .i64 0, .int .i64 0, .string ⟨#[]⟩, .slice none 0 0, .string ⟨#[]⟩] 24 (0, 0)) := blk_set hx0 2 (.int .i64 o2)
  have hz1 := (Below.heap_setCell (w3.setCell ⟨w.heap.size + 1 + 1, 1, none⟩ (.int .i64 o1)) ⟨w.heap.size + 1 + 1, 2, none⟩ (.int .i64 o2) (w.heap.size + 1) hzx).trans hz0
  have hb1 := hb0.setCell (p := ⟨w.heap.size + 1 + 1, 2, none⟩) hwle (.int .i64 o2)
  have hx := blk_drew hx1
  have hz := blk_drew hz1
  have hb := below_drew1 hb1
  clear hx0 hz0 hb0 hx1 hz1 hb1
  obtain ⟨wq, hwq⟩ : ∃ wq, ((w3.setCell ⟨w.heap.size + 1 + 1, 1, none⟩ (.int .i64 o1)).setCell ⟨w.heap.size + 1 + 1, 2, none⟩ (.int .i64 o2)).drew = wq := ⟨_, rfl⟩
  rw [hwq] at hx hz hb ⊢
  clear hwq
  clear HX HW1 HW2 HW3 HO HZ HB cX0 cO0 fO0 cX1 cO1 fO1 cX2 cO2 fO2 cX3 cO3 fO3 cX4 cO4 fO4 cX5 cO5 fO5 cX6 cO6 fO6 cX7 cO7 fO7 cX8 cO8 fO8
  have cQ0 : wq.cell? ⟨w.heap.size + 1 + 1, 0, none⟩ = some (.int .i64 2) := cell_of_row _ _ 0 _ _ _ hx
  have cQ1 : wq.cell? ⟨w.heap.size + 1 + 1, 1, none⟩ = some (.int .i64 o1) := cell_of_row _ _ 1 _ _ _ hx
  have cQ2 : wq.cell? ⟨w.heap.size + 1 + 1, 2, none⟩ = some (.int .i64 o2) := cell_of_row _ _ 2 _ _ _ hx
  have cQ3 : wq.cell? ⟨w.heap.size + 1 + 1, 3, none⟩ = some (.int .i64 0) := cell_of_row _ _ 3 _ _ _ hx
  have cQ4 : wq.cell? ⟨w.heap.size + 1 + 1, 4, none⟩ = some (.int .i64 0) := cell_of_row _ _ 4 _ _ _ hx
  have cQ5 : wq.cell? ⟨w.heap.size + 1 + 1, 5, none⟩ = some (.int .i64 0) := cell_of_row _ _ 5 _ _ _ hx
  have cQ6 : wq.cell? ⟨w.heap.size + 1 + 1, 6, none⟩ = some (.string ⟨#[]⟩) := cell_of_row _ _ 6 _ _ _ hx
  have cQ7 : wq.cell? ⟨w.heap.size + 1 + 1, 7, none⟩ = some (.slice none 0 0) := cell_of_row _ _ 7 _ _ _ hx
  have cQ8 : wq.cell? ⟨w.heap.size + 1 + 1, 8, none⟩ = some (.string ⟨#[]⟩) := cell_of_row _ _ 8 _ _ _ hx
  have cZ0 : wq.cell? ⟨w.heap.size + 1, 0, none⟩ = some (.int .i64 0) := cell_of_row _ _ 0 _ _ _ hz
  have cZ1 : wq.cell? ⟨w.heap.size + 1, 1, none⟩ = some (.int .i64 0) := cell_of_row _ _ 1 _ _ _ hz
  have cZ2 : wq.cell? ⟨w.heap.size + 1, 2, none⟩ = some (.int .i64 0) := cell_of_row _ _ 2 _ _ _ hz
  have cZ3 : wq.cell? ⟨w.heap.size + 1, 3, none⟩ = some (.int .i64 0) := cell_of_row _ _ 3 _ _ _ hz
  have cZ4 : wq.cell? ⟨w.heap.size + 1, 4, none⟩ = some (.int .i64 0) := cell_of_row _ _ 4 _ _ _ hz
  have cZ5 : wq.cell? ⟨w.heap.size + 1, 5, none⟩ = some (.int .i64 0) := cell_of_row _ _ 5 _ _ _ hz
  have cZ6 : wq.cell? ⟨w.heap.size + 1, 6, none⟩ = some (.string ⟨#[]⟩) := cell_of_row _ _ 6 _ _ _ hz
  have cZ7 : wq.cell? ⟨w.heap.size + 1, 7, none⟩ = some (.slice none 0 0) := cell_of_row _ _ 7 _ _ _ hz
  have cZ8 : wq.cell? ⟨w.heap.size + 1, 8, none⟩ = some (.string ⟨#[]⟩) := cell_of_row _ _ 8 _ _ _ hz
  have fZ0 := blk_frozen hz 0
  have fZ1 := blk_frozen hz 1
  have fZ2 := blk_frozen hz 2
  have fZ3 := blk_frozen hz 3
  have fZ4 := blk_frozen hz 4
  have fZ5 := blk_frozen hz 5
  have fZ6 := blk_frozen hz 6
  have fZ7 := blk_frozen hz 7
  have fZ8 := blk_frozen hz 8
  have HZ := hide hz
  have HB := hide hb
  clear hx hz hb hne1 hne2 hzx hwle
  go_wp2_with fail
  exact ⟨rfl, _, res_op2 (set9_blk HZ.out (.int .i64 2) (.int .i64 o1) (.int .i64 o2) (.int .i64 0) (.int .i64 0) (.int .i64 0) (.string ⟨#[]⟩) (.slice none 0 0) (.string ⟨#[]⟩)) 2 3 _ rfl rfl rfl, rfl, set9_below HB.out (by omega) (.int .i64 2) (.int .i64 o1) (.int .i64 o2) (.int .i64 0) (.int .i64 0) (.int .i64 0) (.string ⟨#[]⟩) (.slice none 0 0) (.string ⟨#[]⟩)⟩

set_option maxHeartbeats 4000000 in
set_option maxRecDepth 100000 in
theorem asked3 (o1 o2 o3 o4 o5 : Int) (o6 : ByteArray) (A : Option Addr) (n c : Nat) (o8 : ByteArray) (w : World) :
    Calls Tryd.prog 24 #[.agg #[.int .i64 3, .int .i64 o1, .int .i64 o2, .int .i64 o3, .int .i64 o4, .int .i64 o5, .string o6, .slice A n c, .string o8]] w fun e w' => e = .returned (.tuple #[.agg #[.int .i64 3, .int .i64 o1, .int .i64 0, .int .i64 o3, .int .i64 0, .int .i64 0, .string ⟨#[]⟩, .slice none 0 0, .string ⟨#[]⟩], .bool true]) ∧ Below w.heap.size w w' := by
  have hX := heap_alloc_new w (.cells #[.int .i64 3, .int .i64 o1, .int .i64 o2, .int .i64 o3, .int .i64 o4, .int .i64 o5, .string o6, .slice A n c, .string o8] 24)
  have b1 := below_alloc (Below.refl w.heap.size w) (.cells #[.int .i64 3, .int .i64 o1, .int .i64 o2, .int .i64 o3, .int .i64 o4, .int .i64 o5, .string o6, .slice A n c, .string o8] 24)
  obtain ⟨w1, hw1⟩ : ∃ w1, w.alloc (.cells #[.int .i64 3, .int .i64 o1, .int .i64 o2, .int .i64 o3, .int .i64 o4, .int .i64 o5, .string o6, .slice A n c, .string o8] 24) = w1 := ⟨_, rfl⟩
  have hs1 : w1.heap.size = w.heap.size + 1 := by rw [← hw1]; simp
  rw [hw1] at hX b1
  have hZ := heap_alloc_new w1 (.cells #[.int .i64 0, .int .i64 0, .int .i64 0, .int .i64 0, .int .i64 0, .int .i64 0, .string ⟨#[]⟩, .slice none 0 0, .string ⟨#[]⟩] 24)
  have b2 := below_alloc (Below.refl w1.heap.size w1) (.cells #[.int .i64 0, .int .i64 0, .int .i64 0, .int .i64 0, .int .i64 0, .int .i64 0, .string ⟨#[]⟩, .slice none 0 0, .string ⟨#[]⟩] 24)
  obtain ⟨w2, hw2⟩ : ∃ w2, w1.alloc (.cells #[.int .i64 0, .int .i64 0, .int .i64 0, .int .i64 0, .int .i64 0, .int .i64 0, .string ⟨#[]⟩, .slice none 0 0, .string ⟨#[]⟩] 24) = w2 := ⟨_, rfl⟩
  have hs2 : w2.heap.size = w.heap.size + 1 + 1 := by rw [← hw2]; simp [hs1]
  rw [hw2] at hZ b2
  rw [hs1] at hZ
  have hX2 := (b2.block _ (blk_lt hX)).trans hX
  have hb2 := below_step b1 b2
  have hO := heap_alloc_new w2 (.cells #[.int .i64 3, .int .i64 0, .int .i64 0, .int .i64 0, .int .i64 0, .int .i64 0, .string ⟨#[]⟩, .slice none 0 0, .string ⟨#[]⟩] 24)
  have b3 := below_alloc (Below.refl w2.heap.size w2) (.cells #[.int .i64 3, .int .i64 0, .int .i64 0, .int .i64 0, .int .i64 0, .int .i64 0, .string ⟨#[]⟩, .slice none 0 0, .string ⟨#[]⟩] 24)
  obtain ⟨w3, hw3⟩ : ∃ w3, w2.alloc (.cells #[.int .i64 3, .int .i64 0, .int .i64 0, .int .i64 0, .int .i64 0, .int .i64 0, .string ⟨#[]⟩, .slice none 0 0, .string ⟨#[]⟩] 24) = w3 := ⟨_, rfl⟩
  rw [hw3] at hO b3
  rw [hs2] at hO
  have hX3 := (b3.block _ (blk_lt hX2)).trans hX2
  have hZ3 := (b3.block _ (blk_lt hZ)).trans hZ
  have HX := hide hX3
  have HZ := hide hZ3
  have HB := hide (below_step hb2 b3)
  have HO := hide hO
  have HW1 := hide hw1
  have HW2 := hide hw2
  have HW3 := hide hw3
  have cX0 : w3.cell? ⟨w.heap.size, 0, none⟩ = some (.int .i64 3) := cell_of_row _ _ 0 _ _ _ hX3
  have cX1 : w3.cell? ⟨w.heap.size, 1, none⟩ = some (.int .i64 o1) := cell_of_row _ _ 1 _ _ _ hX3
  have cX2 : w3.cell? ⟨w.heap.size, 2, none⟩ = some (.int .i64 o2) := cell_of_row _ _ 2 _ _ _ hX3
  have cX3 : w3.cell? ⟨w.heap.size, 3, none⟩ = some (.int .i64 o3) := cell_of_row _ _ 3 _ _ _ hX3
  have cX4 : w3.cell? ⟨w.heap.size, 4, none⟩ = some (.int .i64 o4) := cell_of_row _ _ 4 _ _ _ hX3
  have cX5 : w3.cell? ⟨w.heap.size, 5, none⟩ = some (.int .i64 o5) := cell_of_row _ _ 5 _ _ _ hX3
  have cX6 : w3.cell? ⟨w.heap.size, 6, none⟩ = some (.string o6) := cell_of_row _ _ 6 _ _ _ hX3
  have cX7 : w3.cell? ⟨w.heap.size, 7, none⟩ = some (.slice A n c) := cell_of_row _ _ 7 _ _ _ hX3
  have cX8 : w3.cell? ⟨w.heap.size, 8, none⟩ = some (.string o8) := cell_of_row _ _ 8 _ _ _ hX3
  have cO0 : w3.cell? ⟨w.heap.size + 1 + 1, 0, none⟩ = some (.int .i64 3) := cell_of_row _ _ 0 _ _ _ hO
  have cO1 : w3.cell? ⟨w.heap.size + 1 + 1, 1, none⟩ = some (.int .i64 0) := cell_of_row _ _ 1 _ _ _ hO
  have cO2 : w3.cell? ⟨w.heap.size + 1 + 1, 2, none⟩ = some (.int .i64 0) := cell_of_row _ _ 2 _ _ _ hO
  have cO3 : w3.cell? ⟨w.heap.size + 1 + 1, 3, none⟩ = some (.int .i64 0) := cell_of_row _ _ 3 _ _ _ hO
  have cO4 : w3.cell? ⟨w.heap.size + 1 + 1, 4, none⟩ = some (.int .i64 0) := cell_of_row _ _ 4 _ _ _ hO
  have cO5 : w3.cell? ⟨w.heap.size + 1 + 1, 5, none⟩ = some (.int .i64 0) := cell_of_row _ _ 5 _ _ _ hO
  have cO6 : w3.cell? ⟨w.heap.size + 1 + 1, 6, none⟩ = some (.string ⟨#[]⟩) := cell_of_row _ _ 6 _ _ _ hO
  have cO7 : w3.cell? ⟨w.heap.size + 1 + 1, 7, none⟩ = some (.slice none 0 0) := cell_of_row _ _ 7 _ _ _ hO
  have cO8 : w3.cell? ⟨w.heap.size + 1 + 1, 8, none⟩ = some (.string ⟨#[]⟩) := cell_of_row _ _ 8 _ _ _ hO
  have fO0 := blk_frozen hO 0
  have fO1 := blk_frozen hO 1
  have fO2 := blk_frozen hO 2
  have fO3 := blk_frozen hO 3
  have fO4 := blk_frozen hO 4
  have fO5 := blk_frozen hO 5
  have fO6 := blk_frozen hO 6
  have fO7 := blk_frozen hO 7
  have fO8 := blk_frozen hO 8
  have hzx : w.heap.size + 1 ≠ w.heap.size + 1 + 1 := by omega
  have hwle : w.heap.size ≤ w.heap.size + 1 + 1 := by omega
  have hne1 : ¬ w.heap.size + 1 + 1 = w.heap.size := by omega
  have hne2 : ¬ w.heap.size = w.heap.size + 1 + 1 := by omega
  clear hX hX2 hX3 hZ hZ3 b1 b2 b3 hb2 hO hs1 hs2 hw1 hw2 hw3
  go_enter Tryd.func24, Tryd.ntmps24
  go_upto_region 10 with fail
  rw [HW1.out, HW2.out, HW3.out]
  go_region_held3 (fun W => W.cell? ⟨w.heap.size, 1, none⟩ = some (.int .i64 o1) ∧ W.cell? ⟨w.heap.size, 3, none⟩ = some (.int .i64 o3))
    (first
      | go_keep
      | (go_split_ands; (repeat' apply And.intro) <;> (simp only [World.cell?_drew]; rw [World.cell?_setCell_far]; assumption; (show (_ : Nat) ≠ _; omega))))
    ((first
      | fail))
  have hx0 : (w3.setCell ⟨w.heap.size + 1 + 1, 1, none⟩ (.int .i64 o1)).heap[w.heap.size + 1 + 1]? = some (.cells #[.int .i64 3, .int .i64 o1, .int .i64 0, .int .i64 0, .int .i64 0, .int .i64 0, .string ⟨#[]⟩, .slice none 0 0, .string ⟨#[]⟩] 24 (0, 0)) := blk_set HO.out 1 (.int .i64 o1)
  have hz0 := (Below.heap_setCell w3 ⟨w.heap.size + 1 + 1, 1, none⟩ (.int .i64 o1) (w.heap.size + 1) hzx).trans HZ.out
  have hb0 := HB.out.setCell (p := ⟨w.heap.size + 1 + 1, 1, none⟩) hwle (.int .i64 o1)
  have hx1 : ((w3.setCell ⟨w.heap.size + 1 + 1, 1, none⟩ (.int .i64 o1)).setCell ⟨w.heap.size + 1 + 1, 3, none⟩ (.int .i64 o3)).heap[w.heap.size + 1 + 1]? = some (.cells #[.int .i64 3, .int .i64 o1, .int .i64 0, .int .i64 o3, .int .i64 0, .int .i64 0, .string ⟨#[]⟩, .slice none 0 0, .string ⟨#[]⟩] 24 (0, 0)) := blk_set hx0 3 (.int .i64 o3)
  have hz1 := (Below.heap_setCell (w3.setCell ⟨w.heap.size + 1 + 1, 1, none⟩ (.int .i64 o1)) ⟨w.heap.size + 1 + 1, 3, none⟩ (.int .i64 o3) (w.heap.size + 1) hzx).trans hz0
  have hb1 := hb0.setCell (p := ⟨w.heap.size + 1 + 1, 3, none⟩) hwle (.int .i64 o3)
  have hx := blk_drew hx1
  have hz := blk_drew hz1
  have hb := below_drew1 hb1
  clear hx0 hz0 hb0 hx1 hz1 hb1
  obtain ⟨wq, hwq⟩ : ∃ wq, ((w3.setCell ⟨w.heap.size + 1 + 1, 1, none⟩ (.int .i64 o1)).setCell ⟨w.heap.size + 1 + 1, 3, none⟩ (.int .i64 o3)).drew = wq := ⟨_, rfl⟩
  rw [hwq] at hx hz hb ⊢
  clear hwq
  clear HX HW1 HW2 HW3 HO HZ HB cX0 cO0 fO0 cX1 cO1 fO1 cX2 cO2 fO2 cX3 cO3 fO3 cX4 cO4 fO4 cX5 cO5 fO5 cX6 cO6 fO6 cX7 cO7 fO7 cX8 cO8 fO8
  have cQ0 : wq.cell? ⟨w.heap.size + 1 + 1, 0, none⟩ = some (.int .i64 3) := cell_of_row _ _ 0 _ _ _ hx
  have cQ1 : wq.cell? ⟨w.heap.size + 1 + 1, 1, none⟩ = some (.int .i64 o1) := cell_of_row _ _ 1 _ _ _ hx
  have cQ2 : wq.cell? ⟨w.heap.size + 1 + 1, 2, none⟩ = some (.int .i64 0) := cell_of_row _ _ 2 _ _ _ hx
  have cQ3 : wq.cell? ⟨w.heap.size + 1 + 1, 3, none⟩ = some (.int .i64 o3) := cell_of_row _ _ 3 _ _ _ hx
  have cQ4 : wq.cell? ⟨w.heap.size + 1 + 1, 4, none⟩ = some (.int .i64 0) := cell_of_row _ _ 4 _ _ _ hx
  have cQ5 : wq.cell? ⟨w.heap.size + 1 + 1, 5, none⟩ = some (.int .i64 0) := cell_of_row _ _ 5 _ _ _ hx
  have cQ6 : wq.cell? ⟨w.heap.size + 1 + 1, 6, none⟩ = some (.string ⟨#[]⟩) := cell_of_row _ _ 6 _ _ _ hx
  have cQ7 : wq.cell? ⟨w.heap.size + 1 + 1, 7, none⟩ = some (.slice none 0 0) := cell_of_row _ _ 7 _ _ _ hx
  have cQ8 : wq.cell? ⟨w.heap.size + 1 + 1, 8, none⟩ = some (.string ⟨#[]⟩) := cell_of_row _ _ 8 _ _ _ hx
  have cZ0 : wq.cell? ⟨w.heap.size + 1, 0, none⟩ = some (.int .i64 0) := cell_of_row _ _ 0 _ _ _ hz
  have cZ1 : wq.cell? ⟨w.heap.size + 1, 1, none⟩ = some (.int .i64 0) := cell_of_row _ _ 1 _ _ _ hz
  have cZ2 : wq.cell? ⟨w.heap.size + 1, 2, none⟩ = some (.int .i64 0) := cell_of_row _ _ 2 _ _ _ hz
  have cZ3 : wq.cell? ⟨w.heap.size + 1, 3, none⟩ = some (.int .i64 0) := cell_of_row _ _ 3 _ _ _ hz
  have cZ4 : wq.cell? ⟨w.heap.size + 1, 4, none⟩ = some (.int .i64 0) := cell_of_row _ _ 4 _ _ _ hz
  have cZ5 : wq.cell? ⟨w.heap.size + 1, 5, none⟩ = some (.int .i64 0) := cell_of_row _ _ 5 _ _ _ hz
  have cZ6 : wq.cell? ⟨w.heap.size + 1, 6, none⟩ = some (.string ⟨#[]⟩) := cell_of_row _ _ 6 _ _ _ hz
  have cZ7 : wq.cell? ⟨w.heap.size + 1, 7, none⟩ = some (.slice none 0 0) := cell_of_row _ _ 7 _ _ _ hz
  have cZ8 : wq.cell? ⟨w.heap.size + 1, 8, none⟩ = some (.string ⟨#[]⟩) := cell_of_row _ _ 8 _ _ _ hz
  have fZ0 := blk_frozen hz 0
  have fZ1 := blk_frozen hz 1
  have fZ2 := blk_frozen hz 2
  have fZ3 := blk_frozen hz 3
  have fZ4 := blk_frozen hz 4
  have fZ5 := blk_frozen hz 5
  have fZ6 := blk_frozen hz 6
  have fZ7 := blk_frozen hz 7
  have fZ8 := blk_frozen hz 8
  have HZ := hide hz
  have HB := hide hb
  clear hx hz hb hne1 hne2 hzx hwle
  go_wp2_with fail
  exact ⟨rfl, _, res_op2 (set9_blk HZ.out (.int .i64 3) (.int .i64 o1) (.int .i64 0) (.int .i64 o3) (.int .i64 0) (.int .i64 0) (.string ⟨#[]⟩) (.slice none 0 0) (.string ⟨#[]⟩)) 2 3 _ rfl rfl rfl, rfl, set9_below HB.out (by omega) (.int .i64 3) (.int .i64 o1) (.int .i64 0) (.int .i64 o3) (.int .i64 0) (.int .i64 0) (.string ⟨#[]⟩) (.slice none 0 0) (.string ⟨#[]⟩)⟩

set_option maxHeartbeats 4000000 in
set_option maxRecDepth 100000 in
theorem asked9 (o1 o2 o3 o4 o5 : Int) (o6 : ByteArray) (A : Option Addr) (n c : Nat) (o8 : ByteArray) (w : World) :
    Calls Tryd.prog 24 #[.agg #[.int .i64 9, .int .i64 o1, .int .i64 o2, .int .i64 o3, .int .i64 o4, .int .i64 o5, .string o6, .slice A n c, .string o8]] w fun e w' => e = .returned (.tuple #[.agg #[.int .i64 9, .int .i64 o1, .int .i64 0, .int .i64 o3, .int .i64 0, .int .i64 0, .string ⟨#[]⟩, .slice none 0 0, .string ⟨#[]⟩], .bool true]) ∧ Below w.heap.size w w' := by
  have hX := heap_alloc_new w (.cells #[.int .i64 9, .int .i64 o1, .int .i64 o2, .int .i64 o3, .int .i64 o4, .int .i64 o5, .string o6, .slice A n c, .string o8] 24)
  have b1 := below_alloc (Below.refl w.heap.size w) (.cells #[.int .i64 9, .int .i64 o1, .int .i64 o2, .int .i64 o3, .int .i64 o4, .int .i64 o5, .string o6, .slice A n c, .string o8] 24)
  obtain ⟨w1, hw1⟩ : ∃ w1, w.alloc (.cells #[.int .i64 9, .int .i64 o1, .int .i64 o2, .int .i64 o3, .int .i64 o4, .int .i64 o5, .string o6, .slice A n c, .string o8] 24) = w1 := ⟨_, rfl⟩
  have hs1 : w1.heap.size = w.heap.size + 1 := by rw [← hw1]; simp
  rw [hw1] at hX b1
  have hZ := heap_alloc_new w1 (.cells #[.int .i64 0, .int .i64 0, .int .i64 0, .int .i64 0, .int .i64 0, .int .i64 0, .string ⟨#[]⟩, .slice none 0 0, .string ⟨#[]⟩] 24)
  have b2 := below_alloc (Below.refl w1.heap.size w1) (.cells #[.int .i64 0, .int .i64 0, .int .i64 0, .int .i64 0, .int .i64 0, .int .i64 0, .string ⟨#[]⟩, .slice none 0 0, .string ⟨#[]⟩] 24)
  obtain ⟨w2, hw2⟩ : ∃ w2, w1.alloc (.cells #[.int .i64 0, .int .i64 0, .int .i64 0, .int .i64 0, .int .i64 0, .int .i64 0, .string ⟨#[]⟩, .slice none 0 0, .string ⟨#[]⟩] 24) = w2 := ⟨_, rfl⟩
  have hs2 : w2.heap.size = w.heap.size + 1 + 1 := by rw [← hw2]; simp [hs1]
  rw [hw2] at hZ b2
  rw [hs1] at hZ
  have hX2 := (b2.block _ (blk_lt hX)).trans hX
  have hb2 := below_step b1 b2
  have hO := heap_alloc_new w2 (.cells #[.int .i64 9, .int .i64 0, .int .i64 0, .int .i64 0, .int .i64 0, .int .i64 0, .string ⟨#[]⟩, .slice none 0 0, .string ⟨#[]⟩] 24)
  have b3 := below_alloc (Below.refl w2.heap.size w2) (.cells #[.int .i64 9, .int .i64 0, .int .i64 0, .int .i64 0, .int .i64 0, .int .i64 0, .string ⟨#[]⟩, .slice none 0 0, .string ⟨#[]⟩] 24)
  obtain ⟨w3, hw3⟩ : ∃ w3, w2.alloc (.cells #[.int .i64 9, .int .i64 0, .int .i64 0, .int .i64 0, .int .i64 0, .int .i64 0, .string ⟨#[]⟩, .slice none 0 0, .string ⟨#[]⟩] 24) = w3 := ⟨_, rfl⟩
  rw [hw3] at hO b3
  rw [hs2] at hO
  have hX3 := (b3.block _ (blk_lt hX2)).trans hX2
  have hZ3 := (b3.block _ (blk_lt hZ)).trans hZ
  have HX := hide hX3
  have HZ := hide hZ3
  have HB := hide (below_step hb2 b3)
  have HO := hide hO
  have HW1 := hide hw1
  have HW2 := hide hw2
  have HW3 := hide hw3
  have cX0 : w3.cell? ⟨w.heap.size, 0, none⟩ = some (.int .i64 9) := cell_of_row _ _ 0 _ _ _ hX3
  have cX1 : w3.cell? ⟨w.heap.size, 1, none⟩ = some (.int .i64 o1) := cell_of_row _ _ 1 _ _ _ hX3
  have cX2 : w3.cell? ⟨w.heap.size, 2, none⟩ = some (.int .i64 o2) := cell_of_row _ _ 2 _ _ _ hX3
  have cX3 : w3.cell? ⟨w.heap.size, 3, none⟩ = some (.int .i64 o3) := cell_of_row _ _ 3 _ _ _ hX3
  have cX4 : w3.cell? ⟨w.heap.size, 4, none⟩ = some (.int .i64 o4) := cell_of_row _ _ 4 _ _ _ hX3
  have cX5 : w3.cell? ⟨w.heap.size, 5, none⟩ = some (.int .i64 o5) := cell_of_row _ _ 5 _ _ _ hX3
  have cX6 : w3.cell? ⟨w.heap.size, 6, none⟩ = some (.string o6) := cell_of_row _ _ 6 _ _ _ hX3
  have cX7 : w3.cell? ⟨w.heap.size, 7, none⟩ = some (.slice A n c) := cell_of_row _ _ 7 _ _ _ hX3
  have cX8 : w3.cell? ⟨w.heap.size, 8, none⟩ = some (.string o8) := cell_of_row _ _ 8 _ _ _ hX3
  have cO0 : w3.cell? ⟨w.heap.size + 1 + 1, 0, none⟩ = some (.int .i64 9) := cell_of_row _ _ 0 _ _ _ hO
  have cO1 : w3.cell? ⟨w.heap.size + 1 + 1, 1, none⟩ = some (.int .i64 0) := cell_of_row _ _ 1 _ _ _ hO
  have cO2 : w3.cell? ⟨w.heap.size + 1 + 1, 2, none⟩ = some (.int .i64 0) := cell_of_row _ _ 2 _ _ _ hO
  have cO3 : w3.cell? ⟨w.heap.size + 1 + 1, 3, none⟩ = some (.int .i64 0) := cell_of_row _ _ 3 _ _ _ hO
  have cO4 : w3.cell? ⟨w.heap.size + 1 + 1, 4, none⟩ = some (.int .i64 0) := cell_of_row _ _ 4 _ _ _ hO
  have cO5 : w3.cell? ⟨w.heap.size + 1 + 1, 5, none⟩ = some (.int .i64 0) := cell_of_row _ _ 5 _ _ _ hO
  have cO6 : w3.cell? ⟨w.heap.size + 1 + 1, 6, none⟩ = some (.string ⟨#[]⟩) := cell_of_row _ _ 6 _ _ _ hO
  have cO7 : w3.cell? ⟨w.heap.size + 1 + 1, 7, none⟩ = some (.slice none 0 0) := cell_of_row _ _ 7 _ _ _ hO
  have cO8 : w3.cell? ⟨w.heap.size + 1 + 1, 8, none⟩ = some (.string ⟨#[]⟩) := cell_of_row _ _ 8 _ _ _ hO
  have fO0 := blk_frozen hO 0
  have fO1 := blk_frozen hO 1
  have fO2 := blk_frozen hO 2
  have fO3 := blk_frozen hO 3
  have fO4 := blk_frozen hO 4
  have fO5 := blk_frozen hO 5
  have fO6 := blk_frozen hO 6
  have fO7 := blk_frozen hO 7
  have fO8 := blk_frozen hO 8
  have hzx : w.heap.size + 1 ≠ w.heap.size + 1 + 1 := by omega
  have hwle : w.heap.size ≤ w.heap.size + 1 + 1 := by omega
  have hne1 : ¬ w.heap.size + 1 + 1 = w.heap.size := by omega
  have hne2 : ¬ w.heap.size = w.heap.size + 1 + 1 := by omega
  clear hX hX2 hX3 hZ hZ3 b1 b2 b3 hb2 hO hs1 hs2 hw1 hw2 hw3
  go_enter Tryd.func24, Tryd.ntmps24
  go_upto_region 10 with fail
  rw [HW1.out, HW2.out, HW3.out]
  go_region_held3 (fun W => W.cell? ⟨w.heap.size, 1, none⟩ = some (.int .i64 o1) ∧ W.cell? ⟨w.heap.size, 3, none⟩ = some (.int .i64 o3))
    (first
      | go_keep
      | (go_split_ands; (repeat' apply And.intro) <;> (simp only [World.cell?_drew]; rw [World.cell?_setCell_far]; assumption; (show (_ : Nat) ≠ _; omega))))
    ((first
      | fail))
  have hx0 : (w3.setCell ⟨w.heap.size + 1 + 1, 1, none⟩ (.int .i64 o1)).heap[w.heap.size + 1 + 1]? = some (.cells #[.int .i64 9, .int .i64 o1, .int .i64 0, .int .i64 0, .int .i64 0, .int .i64 0, .string ⟨#[]⟩, .slice none 0 0, .string ⟨#[]⟩] 24 (0, 0)) := blk_set HO.out 1 (.int .i64 o1)
  have hz0 := (Below.heap_setCell w3 ⟨w.heap.size + 1 + 1, 1, none⟩ (.int .i64 o1) (w.heap.size + 1) hzx).trans HZ.out
  have hb0 := HB.out.setCell (p := ⟨w.heap.size + 1 + 1, 1, none⟩) hwle (.int .i64 o1)
  have hx1 : ((w3.setCell ⟨w.heap.size + 1 + 1, 1, none⟩ (.int .i64 o1)).setCell ⟨w.heap.size + 1 + 1, 3, none⟩ (.int .i64 o3)).heap[w.heap.size + 1 + 1]? = some (.cells #[.int .i64 9, .int .i64 o1, .int .i64 0, .int .i64 o3, .int .i64 0, .int .i64 0, .string ⟨#[]⟩, .slice none 0 0, .string ⟨#[]⟩] 24 (0, 0)) := blk_set hx0 3 (.int .i64 o3)
  have hz1 := (Below.heap_setCell (w3.setCell ⟨w.heap.size + 1 + 1, 1, none⟩ (.int .i64 o1)) ⟨w.heap.size + 1 + 1, 3, none⟩ (.int .i64 o3) (w.heap.size + 1) hzx).trans hz0
  have hb1 := hb0.setCell (p := ⟨w.heap.size + 1 + 1, 3, none⟩) hwle (.int .i64 o3)
  have hx := blk_drew hx1
  have hz := blk_drew hz1
  have hb := below_drew1 hb1
  clear hx0 hz0 hb0 hx1 hz1 hb1
  obtain ⟨wq, hwq⟩ : ∃ wq, ((w3.setCell ⟨w.heap.size + 1 + 1, 1, none⟩ (.int .i64 o1)).setCell ⟨w.heap.size + 1 + 1, 3, none⟩ (.int .i64 o3)).drew = wq := ⟨_, rfl⟩
  rw [hwq] at hx hz hb ⊢
  clear hwq
  clear HX HW1 HW2 HW3 HO HZ HB cX0 cO0 fO0 cX1 cO1 fO1 cX2 cO2 fO2 cX3 cO3 fO3 cX4 cO4 fO4 cX5 cO5 fO5 cX6 cO6 fO6 cX7 cO7 fO7 cX8 cO8 fO8
  have cQ0 : wq.cell? ⟨w.heap.size + 1 + 1, 0, none⟩ = some (.int .i64 9) := cell_of_row _ _ 0 _ _ _ hx
  have cQ1 : wq.cell? ⟨w.heap.size + 1 + 1, 1, none⟩ = some (.int .i64 o1) := cell_of_row _ _ 1 _ _ _ hx
  have cQ2 : wq.cell? ⟨w.heap.size + 1 + 1, 2, none⟩ = some (.int .i64 0) := cell_of_row _ _ 2 _ _ _ hx
  have cQ3 : wq.cell? ⟨w.heap.size + 1 + 1, 3, none⟩ = some (.int .i64 o3) := cell_of_row _ _ 3 _ _ _ hx
  have cQ4 : wq.cell? ⟨w.heap.size + 1 + 1, 4, none⟩ = some (.int .i64 0) := cell_of_row _ _ 4 _ _ _ hx
  have cQ5 : wq.cell? ⟨w.heap.size + 1 + 1, 5, none⟩ = some (.int .i64 0) := cell_of_row _ _ 5 _ _ _ hx
  have cQ6 : wq.cell? ⟨w.heap.size + 1 + 1, 6, none⟩ = some (.string ⟨#[]⟩) := cell_of_row _ _ 6 _ _ _ hx
  have cQ7 : wq.cell? ⟨w.heap.size + 1 + 1, 7, none⟩ = some (.slice none 0 0) := cell_of_row _ _ 7 _ _ _ hx
  have cQ8 : wq.cell? ⟨w.heap.size + 1 + 1, 8, none⟩ = some (.string ⟨#[]⟩) := cell_of_row _ _ 8 _ _ _ hx
  have cZ0 : wq.cell? ⟨w.heap.size + 1, 0, none⟩ = some (.int .i64 0) := cell_of_row _ _ 0 _ _ _ hz
  have cZ1 : wq.cell? ⟨w.heap.size + 1, 1, none⟩ = some (.int .i64 0) := cell_of_row _ _ 1 _ _ _ hz
  have cZ2 : wq.cell? ⟨w.heap.size + 1, 2, none⟩ = some (.int .i64 0) := cell_of_row _ _ 2 _ _ _ hz
  have cZ3 : wq.cell? ⟨w.heap.size + 1, 3, none⟩ = some (.int .i64 0) := cell_of_row _ _ 3 _ _ _ hz
  have cZ4 : wq.cell? ⟨w.heap.size + 1, 4, none⟩ = some (.int .i64 0) := cell_of_row _ _ 4 _ _ _ hz
  have cZ5 : wq.cell? ⟨w.heap.size + 1, 5, none⟩ = some (.int .i64 0) := cell_of_row _ _ 5 _ _ _ hz
  have cZ6 : wq.cell? ⟨w.heap.size + 1, 6, none⟩ = some (.string ⟨#[]⟩) := cell_of_row _ _ 6 _ _ _ hz
  have cZ7 : wq.cell? ⟨w.heap.size + 1, 7, none⟩ = some (.slice none 0 0) := cell_of_row _ _ 7 _ _ _ hz
  have cZ8 : wq.cell? ⟨w.heap.size + 1, 8, none⟩ = some (.string ⟨#[]⟩) := cell_of_row _ _ 8 _ _ _ hz
  have fZ0 := blk_frozen hz 0
  have fZ1 := blk_frozen hz 1
  have fZ2 := blk_frozen hz 2
  have fZ3 := blk_frozen hz 3
  have fZ4 := blk_frozen hz 4
  have fZ5 := blk_frozen hz 5
  have fZ6 := blk_frozen hz 6
  have fZ7 := blk_frozen hz 7
  have fZ8 := blk_frozen hz 8
  have HZ := hide hz
  have HB := hide hb
  clear hx hz hb hne1 hne2 hzx hwle
  go_wp2_with fail
  exact ⟨rfl, _, res_op2 (set9_blk HZ.out (.int .i64 9) (.int .i64 o1) (.int .i64 0) (.int .i64 o3) (.int .i64 0) (.int .i64 0) (.string ⟨#[]⟩) (.slice none 0 0) (.string ⟨#[]⟩)) 2 3 _ rfl rfl rfl, rfl, set9_below HB.out (by omega) (.int .i64 9) (.int .i64 o1) (.int .i64 0) (.int .i64 o3) (.int .i64 0) (.int .i64 0) (.string ⟨#[]⟩) (.slice none 0 0) (.string ⟨#[]⟩)⟩

set_option maxHeartbeats 4000000 in
set_option maxRecDepth 100000 in
theorem asked4 (o1 o2 o3 o4 o5 : Int) (o6 : ByteArray) (A : Option Addr) (n c : Nat) (o8 : ByteArray) (w : World) :
    Calls Tryd.prog 24 #[.agg #[.int .i64 4, .int .i64 o1, .int .i64 o2, .int .i64 o3, .int .i64 o4, .int .i64 o5, .string o6, .slice A n c, .string o8]] w fun e w' => e = .returned (.tuple #[.agg #[.int .i64 4, .int .i64 o1, .int .i64 o2, .int .i64 o3, .int .i64 0, .int .i64 0, .string ⟨#[]⟩, .slice none 0 0, .string ⟨#[]⟩], .bool true]) ∧ Below w.heap.size w w' := by
  have hX := heap_alloc_new w (.cells #[.int .i64 4, .int .i64 o1, .int .i64 o2, .int .i64 o3, .int .i64 o4, .int .i64 o5, .string o6, .slice A n c, .string o8] 24)
  have b1 := below_alloc (Below.refl w.heap.size w) (.cells #[.int .i64 4, .int .i64 o1, .int .i64 o2, .int .i64 o3, .int .i64 o4, .int .i64 o5, .string o6, .slice A n c, .string o8] 24)
  obtain ⟨w1, hw1⟩ : ∃ w1, w.alloc (.cells #[.int .i64 4, .int .i64 o1, .int .i64 o2, .int .i64 o3, .int .i64 o4, .int .i64 o5, .string o6, .slice A n c, .string o8] 24) = w1 := ⟨_, rfl⟩
  have hs1 : w1.heap.size = w.heap.size + 1 := by rw [← hw1]; simp
  rw [hw1] at hX b1
  have hZ := heap_alloc_new w1 (.cells #[.int .i64 0, .int .i64 0, .int .i64 0, .int .i64 0, .int .i64 0, .int .i64 0, .string ⟨#[]⟩, .slice none 0 0, .string ⟨#[]⟩] 24)
  have b2 := below_alloc (Below.refl w1.heap.size w1) (.cells #[.int .i64 0, .int .i64 0, .int .i64 0, .int .i64 0, .int .i64 0, .int .i64 0, .string ⟨#[]⟩, .slice none 0 0, .string ⟨#[]⟩] 24)
  obtain ⟨w2, hw2⟩ : ∃ w2, w1.alloc (.cells #[.int .i64 0, .int .i64 0, .int .i64 0, .int .i64 0, .int .i64 0, .int .i64 0, .string ⟨#[]⟩, .slice none 0 0, .string ⟨#[]⟩] 24) = w2 := ⟨_, rfl⟩
  have hs2 : w2.heap.size = w.heap.size + 1 + 1 := by rw [← hw2]; simp [hs1]
  rw [hw2] at hZ b2
  rw [hs1] at hZ
  have hX2 := (b2.block _ (blk_lt hX)).trans hX
  have hb2 := below_step b1 b2
  have hO := heap_alloc_new w2 (.cells #[.int .i64 4, .int .i64 0, .int .i64 0, .int .i64 0, .int .i64 0, .int .i64 0, .string ⟨#[]⟩, .slice none 0 0, .string ⟨#[]⟩] 24)
  have b3 := below_alloc (Below.refl w2.heap.size w2) (.cells #[.int .i64 4, .int .i64 0, .int .i64 0, .int .i64 0, .int .i64 0, .int .i64 0, .string ⟨#[]⟩, .slice none 0 0, .string ⟨#[]⟩] 24)
  obtain ⟨w3, hw3⟩ : ∃ w3, w2.alloc (.cells #[.int .i64 4, .int .i64 0, .int .i64 0, .int .i64 0, .int .i64 0, .int .i64 0, .string ⟨#[]⟩, .slice none 0 0, .string ⟨#[]⟩] 24) = w3 := ⟨_, rfl⟩
  rw [hw3] at hO b3
  rw [hs2] at hO
  have hX3 := (b3.block _ (blk_lt hX2)).trans hX2
  have hZ3 := (b3.block _ (blk_lt hZ)).trans hZ
  have HX := hide hX3
  have HZ := hide hZ3
  have HB := hide (below_step hb2 b3)
  have HO := hide hO
  have HW1 := hide hw1
  have HW2 := hide hw2
  have HW3 := hide hw3
  have cX0 : w3.cell? ⟨w.heap.size, 0, none⟩ = some (.int .i64 4) := cell_of_row _ _ 0 _ _ _ hX3
  have cX1 : w3.cell? ⟨w.heap.size, 1, none⟩ = some (.int .i64 o1) := cell_of_row _ _ 1 _ _ _ hX3
  have cX2 : w3.cell? ⟨w.heap.size, 2, none⟩ = some (.int .i64 o2) := cell_of_row _ _ 2 _ _ _ hX3
  have cX3 : w3.cell? ⟨w.heap.size, 3, none⟩ = some (.int .i64 o3) := cell_of_row _ _ 3 _ _ _ hX3
  have cX4 : w3.cell? ⟨w.heap.size, 4, none⟩ = some (.int .i64 o4) := cell_of_row _ _ 4 _ _ _ hX3
  have cX5 : w3.cell? ⟨w.heap.size, 5, none⟩ = some (.int .i64 o5) := cell_of_row _ _ 5 _ _ _ hX3
  have cX6 : w3.cell? ⟨w.heap.size, 6, none⟩ = some (.string o6) := cell_of_row _ _ 6 _ _ _ hX3
  have cX7 : w3.cell? ⟨w.heap.size, 7, none⟩ = some (.slice A n c) := cell_of_row _ _ 7 _ _ _ hX3
  have cX8 : w3.cell? ⟨w.heap.size, 8, none⟩ = some (.string o8) := cell_of_row _ _ 8 _ _ _ hX3
  have cO0 : w3.cell? ⟨w.heap.size + 1 + 1, 0, none⟩ = some (.int .i64 4) := cell_of_row _ _ 0 _ _ _ hO
  have cO1 : w3.cell? ⟨w.heap.size + 1 + 1, 1, none⟩ = some (.int .i64 0) := cell_of_row _ _ 1 _ _ _ hO
  have cO2 : w3.cell? ⟨w.heap.size + 1 + 1, 2, none⟩ = some (.int .i64 0) := cell_of_row _ _ 2 _ _ _ hO
  have cO3 : w3.cell? ⟨w.heap.size + 1 + 1, 3, none⟩ = some (.int .i64 0) := cell_of_row _ _ 3 _ _ _ hO
  have cO4 : w3.cell? ⟨w.heap.size + 1 + 1, 4, none⟩ = some (.int .i64 0) := cell_of_row _ _ 4 _ _ _ hO
  have cO5 : w3.cell? ⟨w.heap.size + 1 + 1, 5, none⟩ = some (.int .i64 0) := cell_of_row _ _ 5 _ _ _ hO
  have cO6 : w3.cell? ⟨w.heap.size + 1 + 1, 6, none⟩ = some (.string ⟨#[]⟩) := cell_of_row _ _ 6 _ _ _ hO
  have cO7 : w3.cell? ⟨w.heap.size + 1 + 1, 7, none⟩ = some (.slice none 0 0) := cell_of_row _ _ 7 _ _ _ hO
  have cO8 : w3.cell? ⟨w.heap.size + 1 + 1, 8, none⟩ = some (.string ⟨#[]⟩) := cell_of_row _ _ 8 _ _ _ hO
  have fO0 := blk_frozen hO 0
  have fO1 := blk_frozen hO 1
  have fO2 := blk_frozen hO 2
  have fO3 := blk_frozen hO 3
  have fO4 := blk_frozen hO 4
  have fO5 := blk_frozen hO 5
  have fO6 := blk_frozen hO 6
  have fO7 := blk_frozen hO 7
  have fO8 := blk_frozen hO 8
  have hzx : w.heap.size + 1 ≠ w.heap.size + 1 + 1 := by omega
  have hwle : w.heap.size ≤ w.heap.size + 1 + 1 := by omega
  have hne1 : ¬ w.heap.size + 1 + 1 = w.heap.size := by omega
  have hne2 : ¬ w.heap.size = w.heap.size + 1 + 1 := by omega
  clear hX hX2 hX3 hZ hZ3 b1 b2 b3 hb2 hO hs1 hs2 hw1 hw2 hw3
  go_enter Tryd.func24, Tryd.ntmps24
  go_upto_region 12 with fail
  rw [HW1.out, HW2.out, HW3.out]
  go_region_held3 (fun W => W.cell? ⟨w.heap.size, 1, none⟩ = some (.int .i64 o1) ∧ W.cell? ⟨w.heap.size, 3, none⟩ = some (.int .i64 o3) ∧ W.cell? ⟨w.heap.size, 2, none⟩ = some (.int .i64 o2))
    (first
      | go_keep
      | (go_split_ands; (repeat' apply And.intro) <;> (simp only [World.cell?_drew]; rw [World.cell?_setCell_far]; assumption; (show (_ : Nat) ≠ _; omega))))
    ((first
      | fail))
  have hx0 : (w3.setCell ⟨w.heap.size + 1 + 1, 1, none⟩ (.int .i64 o1)).heap[w.heap.size + 1 + 1]? = some (.cells #[.int .i64 4, .int .i64 o1, .int .i64 0, .int .i64 0, .int .i64 0, .int .i64 0, .string ⟨#[]⟩, .slice none 0 0, .string ⟨#[]⟩] 24 (0, 0)) := blk_set HO.out 1 (.int .i64 o1)
  have hz0 := (Below.heap_setCell w3 ⟨w.heap.size + 1 + 1, 1, none⟩ (.int .i64 o1) (w.heap.size + 1) hzx).trans HZ.out
  have hb0 := HB.out.setCell (p := ⟨w.heap.size + 1 + 1, 1, none⟩) hwle (.int .i64 o1)
  have hx1 : ((w3.setCell ⟨w.heap.size + 1 + 1, 1, none⟩ (.int .i64 o1)).setCell ⟨w.heap.size + 1 + 1, 3, none⟩ (.int .i64 o3)).heap[w.heap.size + 1 + 1]? = some (.cells #[.int .i64 4, .int .i64 o1, .int .i64 0, .int .i64 o3, .int .i64 0, .int .i64 0, .string ⟨#[]⟩, .slice none 0 0, .string ⟨#[]⟩] 24 (0, 0)) := blk_set hx0 3 (.int .i64 o3)
  have hz1 := (Below.heap_setCell (w3.setCell ⟨w.heap.size + 1 + 1, 1, none⟩ (.int .i64 o1)) ⟨w.heap.size + 1 + 1, 3, none⟩ (.int .i64 o3) (w.heap.size + 1) hzx).trans hz0
  have hb1 := hb0.setCell (p := ⟨w.heap.size + 1 + 1, 3, none⟩) hwle (.int .i64 o3)
  have hx2 : (((w3.setCell ⟨w.heap.size + 1 + 1, 1, none⟩ (.int .i64 o1)).setCell ⟨w.heap.size + 1 + 1, 3, none⟩ (.int .i64 o3)).setCell ⟨w.heap.size + 1 + 1, 2, none⟩ (.int .i64 o2)).heap[w.heap.size + 1 + 1]? = some (.cells #[.int .i64 4, .int .i64 o1, .int .i64 o2, .int .i64 o3, .int .i64 0, .int .i64 0, .string ⟨#[]⟩, .slice none 0 0, .string ⟨#[]⟩] 24 (0, 0)) := blk_set hx1 2 (.int .i64 o2)
  have hz2 := (Below.heap_setCell ((w3.setCell ⟨w.heap.size + 1 + 1, 1, none⟩ (.int .i64 o1)).setCell ⟨w.heap.size + 1 + 1, 3, none⟩ (.int .i64 o3)) ⟨w.heap.size + 1 + 1, 2, none⟩ (.int .i64 o2) (w.heap.size + 1) hzx).trans hz1
  have hb2 := hb1.setCell (p := ⟨w.heap.size + 1 + 1, 2, none⟩) hwle (.int .i64 o2)
  have hx := blk_drew hx2
  have hz := blk_drew hz2
  have hb := below_drew1 hb2
  clear hx0 hz0 hb0 hx1 hz1 hb1 hx2 hz2 hb2
  obtain ⟨wq, hwq⟩ : ∃ wq, (((w3.setCell ⟨w.heap.size + 1 + 1, 1, none⟩ (.int .i64 o1)).setCell ⟨w.heap.size + 1 + 1, 3, none⟩ (.int .i64 o3)).setCell ⟨w.heap.size + 1 + 1, 2, none⟩ (.int .i64 o2)).drew = wq := ⟨_, rfl⟩
  rw [hwq] at hx hz hb ⊢
  clear hwq
  clear HX HW1 HW2 HW3 HO HZ HB cX0 cO0 fO0 cX1 cO1 fO1 cX2 cO2 fO2 cX3 cO3 fO3 cX4 cO4 fO4 cX5 cO5 fO5 cX6 cO6 fO6 cX7 cO7 fO7 cX8 cO8 fO8
  have cQ0 : wq.cell? ⟨w.heap.size + 1 + 1, 0, none⟩ = some (.int .i64 4) := cell_of_row _ _ 0 _ _ _ hx
  have cQ1 : wq.cell? ⟨w.heap.size + 1 + 1, 1, none⟩ = some (.int .i64 o1) := cell_of_row _ _ 1 _ _ _ hx
  have cQ2 : wq.cell? ⟨w.heap.size + 1 + 1, 2, none⟩ = some (.int .i64 o2) := cell_of_row _ _ 2 _ _ _ hx
  have cQ3 : wq.cell? ⟨w.heap.size + 1 + 1, 3, none⟩ = some (.int .i64 o3) := cell_of_row _ _ 3 _ _ _ hx
  have cQ4 : wq.cell? ⟨w.heap.size + 1 + 1, 4, none⟩ = some (.int .i64 0) := cell_of_row _ _ 4 _ _ _ hx
  have cQ5 : wq.cell? ⟨w.heap.size + 1 + 1, 5, none⟩ = some (.int .i64 0) := cell_of_row _ _ 5 _ _ _ hx
  have cQ6 : wq.cell? ⟨w.heap.size + 1 + 1, 6, none⟩ = some (.string ⟨#[]⟩) := cell_of_row _ _ 6 _ _ _ hx
  have cQ7 : wq.cell? ⟨w.heap.size + 1 + 1, 7, none⟩ = some (.slice none 0 0) := cell_of_row _ _ 7 _ _ _ hx
  have cQ8 : wq.cell? ⟨w.heap.size + 1 + 1, 8, none⟩ = some (.string ⟨#[]⟩) := cell_of_row _ _ 8 _ _ _ hx
  have cZ0 : wq.cell? ⟨w.heap.size + 1, 0, none⟩ = some (.int .i64 0) := cell_of_row _ _ 0 _ _ _ hz
  have cZ1 : wq.cell? ⟨w.heap.size + 1, 1, none⟩ = some (.int .i64 0) := cell_of_row _ _ 1 _ _ _ hz
  have cZ2 : wq.cell? ⟨w.heap.size + 1, 2, none⟩ = some (.int .i64 0) := cell_of_row _ _ 2 _ _ _ hz
  have cZ3 : wq.cell? ⟨w.heap.size + 1, 3, none⟩ = some (.int .i64 0) := cell_of_row _ _ 3 _ _ _ hz
  have cZ4 : wq.cell? ⟨w.heap.size + 1, 4, none⟩ = some (.int .i64 0) := cell_of_row _ _ 4 _ _ _ hz
  have cZ5 : wq.cell? ⟨w.heap.size + 1, 5, none⟩ = some (.int .i64 0) := cell_of_row _ _ 5 _ _ _ hz
  have cZ6 : wq.cell? ⟨w.heap.size + 1, 6, none⟩ = some (.string ⟨#[]⟩) := cell_of_row _ _ 6 _ _ _ hz
  have cZ7 : wq.cell? ⟨w.heap.size + 1, 7, none⟩ = some (.slice none 0 0) := cell_of_row _ _ 7 _ _ _ hz
  have cZ8 : wq.cell? ⟨w.heap.size + 1, 8, none⟩ = some (.string ⟨#[]⟩) := cell_of_row _ _ 8 _ _ _ hz
  have fZ0 := blk_frozen hz 0
  have fZ1 := blk_frozen hz 1
  have fZ2 := blk_frozen hz 2
  have fZ3 := blk_frozen hz 3
  have fZ4 := blk_frozen hz 4
  have fZ5 := blk_frozen hz 5
  have fZ6 := blk_frozen hz 6
  have fZ7 := blk_frozen hz 7
  have fZ8 := blk_frozen hz 8
  have HZ := hide hz
  have HB := hide hb
  clear hx hz hb hne1 hne2 hzx hwle
  go_wp2_with fail
  exact ⟨rfl, _, res_op2 (set9_blk HZ.out (.int .i64 4) (.int .i64 o1) (.int .i64 o2) (.int .i64 o3) (.int .i64 0) (.int .i64 0) (.string ⟨#[]⟩) (.slice none 0 0) (.string ⟨#[]⟩)) 2 3 _ rfl rfl rfl, rfl, set9_below HB.out (by omega) (.int .i64 4) (.int .i64 o1) (.int .i64 o2) (.int .i64 o3) (.int .i64 0) (.int .i64 0) (.string ⟨#[]⟩) (.slice none 0 0) (.string ⟨#[]⟩)⟩

set_option maxHeartbeats 4000000 in
set_option maxRecDepth 100000 in
theorem asked5 (o1 o2 o3 o4 o5 : Int) (o6 : ByteArray) (A : Option Addr) (n c : Nat) (o8 : ByteArray) (w : World) :
    Calls Tryd.prog 24 #[.agg #[.int .i64 5, .int .i64 o1, .int .i64 o2, .int .i64 o3, .int .i64 o4, .int .i64 o5, .string o6, .slice A n c, .string o8]] w fun e w' => e = .returned (.tuple #[.agg #[.int .i64 5, .int .i64 0, .int .i64 o2, .int .i64 0, .int .i64 0, .int .i64 0, .string ⟨#[]⟩, .slice none 0 0, .string o8], .bool true]) ∧ Below w.heap.size w w' := by
  have hX := heap_alloc_new w (.cells #[.int .i64 5, .int .i64 o1, .int .i64 o2, .int .i64 o3, .int .i64 o4, .int .i64 o5, .string o6, .slice A n c, .string o8] 24)
  have b1 := below_alloc (Below.refl w.heap.size w) (.cells #[.int .i64 5, .int .i64 o1, .int .i64 o2, .int .i64 o3, .int .i64 o4, .int .i64 o5, .string o6, .slice A n c, .string o8] 24)
  obtain ⟨w1, hw1⟩ : ∃ w1, w.alloc (.cells #[.int .i64 5, .int .i64 o1, .int .i64 o2, .int .i64 o3, .int .i64 o4, .int .i64 o5, .string o6, .slice A n c, .string o8] 24) = w1 := ⟨_, rfl⟩
  have hs1 : w1.heap.size = w.heap.size + 1 := by rw [← hw1]; simp
  rw [hw1] at hX b1
  have hZ := heap_alloc_new w1 (.cells #[.int .i64 0, .int .i64 0, .int .i64 0, .int .i64 0, .int .i64 0, .int .i64 0, .string ⟨#[]⟩, .slice none 0 0, .string ⟨#[]⟩] 24)
  have b2 := below_alloc (Below.refl w1.heap.size w1) (.cells #[.int .i64 0, .int .i64 0, .int .i64 0, .int .i64 0, .int .i64 0, .int .i64 0, .string ⟨#[]⟩, .slice none 0 0, .string ⟨#[]⟩] 24)
  obtain ⟨w2, hw2⟩ : ∃ w2, w1.alloc (.cells #[.int .i64 0, .int .i64 0, .int .i64 0, .int .i64 0, .int .i64 0, .int .i64 0, .string ⟨#[]⟩, .slice none 0 0, .string ⟨#[]⟩] 24) = w2 := ⟨_, rfl⟩
  have hs2 : w2.heap.size = w.heap.size + 1 + 1 := by rw [← hw2]; simp [hs1]
  rw [hw2] at hZ b2
  rw [hs1] at hZ
  have hX2 := (b2.block _ (blk_lt hX)).trans hX
  have hb2 := below_step b1 b2
  have hO := heap_alloc_new w2 (.cells #[.int .i64 5, .int .i64 0, .int .i64 0, .int .i64 0, .int .i64 0, .int .i64 0, .string ⟨#[]⟩, .slice none 0 0, .string ⟨#[]⟩] 24)
  have b3 := below_alloc (Below.refl w2.heap.size w2) (.cells #[.int .i64 5, .int .i64 0, .int .i64 0, .int .i64 0, .int .i64 0, .int .i64 0, .string ⟨#[]⟩, .slice none 0 0, .string ⟨#[]⟩] 24)
  obtain ⟨w3, hw3⟩ : ∃ w3, w2.alloc (.cells #[.int .i64 5, .int .i64 0, .int .i64 0, .int .i64 0, .int .i64 0, .int .i64 0, .string ⟨#[]⟩, .slice none 0 0, .string ⟨#[]⟩] 24) = w3 := ⟨_, rfl⟩
  rw [hw3] at hO b3
  rw [hs2] at hO
  have hX3 := (b3.block _ (blk_lt hX2)).trans hX2
  have hZ3 := (b3.block _ (blk_lt hZ)).trans hZ
  have HX := hide hX3
  have HZ := hide hZ3
  have HB := hide (below_step hb2 b3)
  have HO := hide hO
  have HW1 := hide hw1
  have HW2 := hide hw2
  have HW3 := hide hw3
  have cX0 : w3.cell? ⟨w.heap.size, 0, none⟩ = some (.int .i64 5) := cell_of_row _ _ 0 _ _ _ hX3
  have cX1 : w3.cell? ⟨w.heap.size, 1, none⟩ = some (.int .i64 o1) := cell_of_row _ _ 1 _ _ _ hX3
  have cX2 : w3.cell? ⟨w.heap.size, 2, none⟩ = some (.int .i64 o2) := cell_of_row _ _ 2 _ _ _ hX3
  have cX3 : w3.cell? ⟨w.heap.size, 3, none⟩ = some (.int .i64 o3) := cell_of_row _ _ 3 _ _ _ hX3
  have cX4 : w3.cell? ⟨w.heap.size, 4, none⟩ = some (.int .i64 o4) := cell_of_row _ _ 4 _ _ _ hX3
  have cX5 : w3.cell? ⟨w.heap.size, 5, none⟩ = some (.int .i64 o5) := cell_of_row _ _ 5 _ _ _ hX3
  have cX6 : w3.cell? ⟨w.heap.size, 6, none⟩ = some (.string o6) := cell_of_row _ _ 6 _ _ _ hX3
  have cX7 : w3.cell? ⟨w.heap.size, 7, none⟩ = some (.slice A n c) := cell_of_row _ _ 7 _ _ _ hX3
  have cX8 : w3.cell? ⟨w.heap.size, 8, none⟩ = some (.string o8) := cell_of_row _ _ 8 _ _ _ hX3
  have cO0 : w3.cell? ⟨w.heap.size + 1 + 1, 0, none⟩ = some (.int .i64 5) := cell_of_row _ _ 0 _ _ _ hO
  have cO1 : w3.cell? ⟨w.heap.size + 1 + 1, 1, none⟩ = some (.int .i64 0) := cell_of_row _ _ 1 _ _ _ hO
  have cO2 : w3.cell? ⟨w.heap.size + 1 + 1, 2, none⟩ = some (.int .i64 0) := cell_of_row _ _ 2 _ _ _ hO
  have cO3 : w3.cell? ⟨w.heap.size + 1 + 1, 3, none⟩ = some (.int .i64 0) := cell_of_row _ _ 3 _ _ _ hO
  have cO4 : w3.cell? ⟨w.heap.size + 1 + 1, 4, none⟩ = some (.int .i64 0) := cell_of_row _ _ 4 _ _ _ hO
  have cO5 : w3.cell? ⟨w.heap.size + 1 + 1, 5, none⟩ = some (.int .i64 0) := cell_of_row _ _ 5 _ _ _ hO
  have cO6 : w3.cell? ⟨w.heap.size + 1 + 1, 6, none⟩ = some (.string ⟨#[]⟩) := cell_of_row _ _ 6 _ _ _ hO
  have cO7 : w3.cell? ⟨w.heap.size + 1 + 1, 7, none⟩ = some (.slice none 0 0) := cell_of_row _ _ 7 _ _ _ hO
  have cO8 : w3.cell? ⟨w.heap.size + 1 + 1, 8, none⟩ = some (.string ⟨#[]⟩) := cell_of_row _ _ 8 _ _ _ hO
  have fO0 := blk_frozen hO 0
  have fO1 := blk_frozen hO 1
  have fO2 := blk_frozen hO 2
  have fO3 := blk_frozen hO 3
  have fO4 := blk_frozen hO 4
  have fO5 := blk_frozen hO 5
  have fO6 := blk_frozen hO 6
  have fO7 := blk_frozen hO 7
  have fO8 := blk_frozen hO 8
  have hzx : w.heap.size + 1 ≠ w.heap.size + 1 + 1 := by omega
  have hwle : w.heap.size ≤ w.heap.size + 1 + 1 := by omega
  have hne1 : ¬ w.heap.size + 1 + 1 = w.heap.size := by omega
  have hne2 : ¬ w.heap.size = w.heap.size + 1 + 1 := by omega
  clear hX hX2 hX3 hZ hZ3 b1 b2 b3 hb2 hO hs1 hs2 hw1 hw2 hw3
  go_enter Tryd.func24, Tryd.ntmps24
  go_upto_region 14 with fail
  rw [HW1.out, HW2.out, HW3.out]
  go_region_held3 (fun W => W.cell? ⟨w.heap.size, 2, none⟩ = some (.int .i64 o2) ∧ W.cell? ⟨w.heap.size, 8, none⟩ = some (.string o8))
    (first
      | go_keep
      | (go_split_ands; (repeat' apply And.intro) <;> (simp only [World.cell?_drew]; rw [World.cell?_setCell_far]; assumption; (show (_ : Nat) ≠ _; omega))))
    ((first
      | fail))
  have hx0 : (w3.setCell ⟨w.heap.size + 1 + 1, 2, none⟩ (.int .i64 o2)).heap[w.heap.size + 1 + 1]? = some (.cells #[.int .i64 5, .int .i64 0, .int .i64 o2, .int .i64 0, .int .i64 0, .int .i64 0, .string ⟨#[]⟩, .slice none 0 0, .string ⟨#[]⟩] 24 (0, 0)) := blk_set HO.out 2 (.int .i64 o2)
  have hz0 := (Below.heap_setCell w3 ⟨w.heap.size + 1 + 1, 2, none⟩ (.int .i64 o2) (w.heap.size + 1) hzx).trans HZ.out
  have hb0 := HB.out.setCell (p := ⟨w.heap.size + 1 + 1, 2, none⟩) hwle (.int .i64 o2)
  have hx1 : ((w3.setCell ⟨w.heap.size + 1 + 1, 2, none⟩ (.int .i64 o2)).setCell ⟨w.heap.size + 1 + 1, 8, none⟩ (.string o8)).heap[w.heap.size + 1 + 1]? = some (.cells #[.int .i64 5, .int .i64 0, .int .i64 o2, .int .i64 0, .int .i64 0, .int .i64 0, .string ⟨#[]⟩, .slice none 0 0, .string o8] 24 (0, 0)) := blk_set hx0 8 (.string o8)
  have hz1 := (Below.heap_setCell (w3.setCell ⟨w.heap.size + 1 + 1, 2, none⟩ (.int .i64 o2)) ⟨w.heap.size + 1 + 1, 8, none⟩ (.string o8) (w.heap.size + 1) hzx).trans hz0
  have hb1 := hb0.setCell (p := ⟨w.heap.size + 1 + 1, 8, none⟩) hwle (.string o8)
  have hx := blk_drew hx1
  have hz := blk_drew hz1
  have hb := below_drew1 hb1
  clear hx0 hz0 hb0 hx1 hz1 hb1
  obtain ⟨wq, hwq⟩ : ∃ wq, ((w3.setCell ⟨w.heap.size + 1 + 1, 2, none⟩ (.int .i64 o2)).setCell ⟨w.heap.size + 1 + 1, 8, none⟩ (.string o8)).drew = wq := ⟨_, rfl⟩
  rw [hwq] at hx hz hb ⊢
  clear hwq
  clear HX HW1 HW2 HW3 HO HZ HB cX0 cO0 fO0 cX1 cO1 fO1 cX2 cO2 fO2 cX3 cO3 fO3 cX4 cO4 fO4 cX5 cO5 fO5 cX6 cO6 fO6 cX7 cO7 fO7 cX8 cO8 fO8
  have cQ0 : wq.cell? ⟨w.heap.size + 1 + 1, 0, none⟩ = some (.int .i64 5) := cell_of_row _ _ 0 _ _ _ hx
  have cQ1 : wq.cell? ⟨w.heap.size + 1 + 1, 1, none⟩ = some (.int .i64 0) := cell_of_row _ _ 1 _ _ _ hx
  have cQ2 : wq.cell? ⟨w.heap.size + 1 + 1, 2, none⟩ = some (.int .i64 o2) := cell_of_row _ _ 2 _ _ _ hx
  have cQ3 : wq.cell? ⟨w.heap.size + 1 + 1, 3, none⟩ = some (.int .i64 0) := cell_of_row _ _ 3 _ _ _ hx
  have cQ4 : wq.cell? ⟨w.heap.size + 1 + 1, 4, none⟩ = some (.int .i64 0) := cell_of_row _ _ 4 _ _ _ hx
  have cQ5 : wq.cell? ⟨w.heap.size + 1 + 1, 5, none⟩ = some (.int .i64 0) := cell_of_row _ _ 5 _ _ _ hx
  have cQ6 : wq.cell? ⟨w.heap.size + 1 + 1, 6, none⟩ = some (.string ⟨#[]⟩) := cell_of_row _ _ 6 _ _ _ hx
  have cQ7 : wq.cell? ⟨w.heap.size + 1 + 1, 7, none⟩ = some (.slice none 0 0) := cell_of_row _ _ 7 _ _ _ hx
  have cQ8 : wq.cell? ⟨w.heap.size + 1 + 1, 8, none⟩ = some (.string o8) := cell_of_row _ _ 8 _ _ _ hx
  have cZ0 : wq.cell? ⟨w.heap.size + 1, 0, none⟩ = some (.int .i64 0) := cell_of_row _ _ 0 _ _ _ hz
  have cZ1 : wq.cell? ⟨w.heap.size + 1, 1, none⟩ = some (.int .i64 0) := cell_of_row _ _ 1 _ _ _ hz
  have cZ2 : wq.cell? ⟨w.heap.size + 1, 2, none⟩ = some (.int .i64 0) := cell_of_row _ _ 2 _ _ _ hz
  have cZ3 : wq.cell? ⟨w.heap.size + 1, 3, none⟩ = some (.int .i64 0) := cell_of_row _ _ 3 _ _ _ hz
  have cZ4 : wq.cell? ⟨w.heap.size + 1, 4, none⟩ = some (.int .i64 0) := cell_of_row _ _ 4 _ _ _ hz
  have cZ5 : wq.cell? ⟨w.heap.size + 1, 5, none⟩ = some (.int .i64 0) := cell_of_row _ _ 5 _ _ _ hz
  have cZ6 : wq.cell? ⟨w.heap.size + 1, 6, none⟩ = some (.string ⟨#[]⟩) := cell_of_row _ _ 6 _ _ _ hz
  have cZ7 : wq.cell? ⟨w.heap.size + 1, 7, none⟩ = some (.slice none 0 0) := cell_of_row _ _ 7 _ _ _ hz
  have cZ8 : wq.cell? ⟨w.heap.size + 1, 8, none⟩ = some (.string ⟨#[]⟩) := cell_of_row _ _ 8 _ _ _ hz
  have fZ0 := blk_frozen hz 0
  have fZ1 := blk_frozen hz 1
  have fZ2 := blk_frozen hz 2
  have fZ3 := blk_frozen hz 3
  have fZ4 := blk_frozen hz 4
  have fZ5 := blk_frozen hz 5
  have fZ6 := blk_frozen hz 6
  have fZ7 := blk_frozen hz 7
  have fZ8 := blk_frozen hz 8
  have HZ := hide hz
  have HB := hide hb
  clear hx hz hb hne1 hne2 hzx hwle
  go_wp2_with fail
  exact ⟨rfl, _, res_op2 (set9_blk HZ.out (.int .i64 5) (.int .i64 0) (.int .i64 o2) (.int .i64 0) (.int .i64 0) (.int .i64 0) (.string ⟨#[]⟩) (.slice none 0 0) (.string o8)) 2 3 _ rfl rfl rfl, rfl, set9_below HB.out (by omega) (.int .i64 5) (.int .i64 0) (.int .i64 o2) (.int .i64 0) (.int .i64 0) (.int .i64 0) (.string ⟨#[]⟩) (.slice none 0 0) (.string o8)⟩

set_option maxHeartbeats 4000000 in
set_option maxRecDepth 100000 in
theorem asked6 (o1 o2 o3 o4 o5 : Int) (o6 : ByteArray) (A : Option Addr) (n c : Nat) (o8 : ByteArray) (w : World) :
    Calls Tryd.prog 24 #[.agg #[.int .i64 6, .int .i64 o1, .int .i64 o2, .int .i64 o3, .int .i64 o4, .int .i64 o5, .string o6, .slice A n c, .string o8]] w fun e w' => e = .returned (.tuple #[.agg #[.int .i64 6, .int .i64 0, .int .i64 o2, .int .i64 o3, .int .i64 0, .int .i64 0, .string ⟨#[]⟩, .slice none 0 0, .string o8], .bool true]) ∧ Below w.heap.size w w' := by
  have hX := heap_alloc_new w (.cells #[.int .i64 6, .int .i64 o1, .int .i64 o2, .int .i64 o3, .int .i64 o4, .int .i64 o5, .string o6, .slice A n c, .string o8] 24)
  have b1 := below_alloc (Below.refl w.heap.size w) (.cells #[.int .i64 6, .int .i64 o1, .int .i64 o2, .int .i64 o3, .int .i64 o4, .int .i64 o5, .string o6, .slice A n c, .string o8] 24)
  obtain ⟨w1, hw1⟩ : ∃ w1, w.alloc (.cells #[.int .i64 6, .int .i64 o1, .int .i64 o2, .int .i64 o3, .int .i64 o4, .int .i64 o5, .string o6, .slice A n c, .string o8] 24) = w1 := ⟨_, rfl⟩
  have hs1 : w1.heap.size = w.heap.size + 1 := by rw [← hw1]; simp
  rw [hw1] at hX b1
  have hZ := heap_alloc_new w1 (.cells #[.int .i64 0, .int .i64 0, .int .i64 0, .int .i64 0, .int .i64 0, .int .i64 0, .string ⟨#[]⟩, .slice none 0 0, .string ⟨#[]⟩] 24)
  have b2 := below_alloc (Below.refl w1.heap.size w1) (.cells #[.int .i64 0, .int .i64 0, .int .i64 0, .int .i64 0, .int .i64 0, .int .i64 0, .string ⟨#[]⟩, .slice none 0 0, .string ⟨#[]⟩] 24)
  obtain ⟨w2, hw2⟩ : ∃ w2, w1.alloc (.cells #[.int .i64 0, .int .i64 0, .int .i64 0, .int .i64 0, .int .i64 0, .int .i64 0, .string ⟨#[]⟩, .slice none 0 0, .string ⟨#[]⟩] 24) = w2 := ⟨_, rfl⟩
  have hs2 : w2.heap.size = w.heap.size + 1 + 1 := by rw [← hw2]; simp [hs1]
  rw [hw2] at hZ b2
  rw [hs1] at hZ
  have hX2 := (b2.block _ (blk_lt hX)).trans hX
  have hb2 := below_step b1 b2
  have hO := heap_alloc_new w2 (.cells #[.int .i64 6, .int .i64 0, .int .i64 0, .int .i64 0, .int .i64 0, .int .i64 0, .string ⟨#[]⟩, .slice none 0 0, .string ⟨#[]⟩] 24)
  have b3 := below_alloc (Below.refl w2.heap.size w2) (.cells #[.int .i64 6, .int .i64 0, .int .i64 0, .int .i64 0, .int .i64 0, .int .i64 0, .string ⟨#[]⟩, .slice none 0 0, .string ⟨#[]⟩] 24)
  obtain ⟨w3, hw3⟩ : ∃ w3, w2.alloc (.cells #[.int .i64 6, .int .i64 0, .int .i64 0, .int .i64 0, .int .i64 0, .int .i64 0, .string ⟨#[]⟩, .slice none 0 0, .string ⟨#[]⟩] 24) = w3 := ⟨_, rfl⟩
  rw [hw3] at hO b3
  rw [hs2] at hO
  have hX3 := (b3.block _ (blk_lt hX2)).trans hX2
  have hZ3 := (b3.block _ (blk_lt hZ)).trans hZ
  have HX := hide hX3
  have HZ := hide hZ3
  have HB := hide (below_step hb2 b3)
  have HO := hide hO
  have HW1 := hide hw1
  have HW2 := hide hw2
  have HW3 := hide hw3
  have cX0 : w3.cell? ⟨w.heap.size, 0, none⟩ = some (.int .i64 6) := cell_of_row _ _ 0 _ _ _ hX3
  have cX1 : w3.cell? ⟨w.heap.size, 1, none⟩ = some (.int .i64 o1) := cell_of_row _ _ 1 _ _ _ hX3
  have cX2 : w3.cell? ⟨w.heap.size, 2, none⟩ = some (.int .i64 o2) := cell_of_row _ _ 2 _ _ _ hX3
  have cX3 : w3.cell? ⟨w.heap.size, 3, none⟩ = some (.int .i64 o3) := cell_of_row _ _ 3 _ _ _ hX3
  have cX4 : w3.cell? ⟨w.heap.size, 4, none⟩ = some (.int .i64 o4) := cell_of_row _ _ 4 _ _ _ hX3
  have cX5 : w3.cell? ⟨w.heap.size, 5, none⟩ = some (.int .i64 o5) := cell_of_row _ _ 5 _ _ _ hX3
  have cX6 : w3.cell? ⟨w.heap.size, 6, none⟩ = some (.string o6) := cell_of_row _ _ 6 _ _ _ hX3
  have cX7 : w3.cell? ⟨w.heap.size, 7, none⟩ = some (.slice A n c) := cell_of_row _ _ 7 _ _ _ hX3
  have cX8 : w3.cell? ⟨w.heap.size, 8, none⟩ = some (.string o8) := cell_of_row _ _ 8 _ _ _ hX3
  have cO0 : w3.cell? ⟨w.heap.size + 1 + 1, 0, none⟩ = some (.int .i64 6) := cell_of_row _ _ 0 _ _ _ hO
  have cO1 : w3.cell? ⟨w.heap.size + 1 + 1, 1, none⟩ = some (.int .i64 0) := cell_of_row _ _ 1 _ _ _ hO
  have cO2 : w3.cell? ⟨w.heap.size + 1 + 1, 2, none⟩ = some (.int .i64 0) := cell_of_row _ _ 2 _ _ _ hO
  have cO3 : w3.cell? ⟨w.heap.size + 1 + 1, 3, none⟩ = some (.int .i64 0) := cell_of_row _ _ 3 _ _ _ hO
  have cO4 : w3.cell? ⟨w.heap.size + 1 + 1, 4, none⟩ = some (.int .i64 0) := cell_of_row _ _ 4 _ _ _ hO
  have cO5 : w3.cell? ⟨w.heap.size + 1 + 1, 5, none⟩ = some (.int .i64 0) := cell_of_row _ _ 5 _ _ _ hO
  have cO6 : w3.cell? ⟨w.heap.size + 1 + 1, 6, none⟩ = some (.string ⟨#[]⟩) := cell_of_row _ _ 6 _ _ _ hO
  have cO7 : w3.cell? ⟨w.heap.size + 1 + 1, 7, none⟩ = some (.slice none 0 0) := cell_of_row _ _ 7 _ _ _ hO
  have cO8 : w3.cell? ⟨w.heap.size + 1 + 1, 8, none⟩ = some (.string ⟨#[]⟩) := cell_of_row _ _ 8 _ _ _ hO
  have fO0 := blk_frozen hO 0
  have fO1 := blk_frozen hO 1
  have fO2 := blk_frozen hO 2
  have fO3 := blk_frozen hO 3
  have fO4 := blk_frozen hO 4
  have fO5 := blk_frozen hO 5
  have fO6 := blk_frozen hO 6
  have fO7 := blk_frozen hO 7
  have fO8 := blk_frozen hO 8
  have hzx : w.heap.size + 1 ≠ w.heap.size + 1 + 1 := by omega
  have hwle : w.heap.size ≤ w.heap.size + 1 + 1 := by omega
  have hne1 : ¬ w.heap.size + 1 + 1 = w.heap.size := by omega
  have hne2 : ¬ w.heap.size = w.heap.size + 1 + 1 := by omega
  clear hX hX2 hX3 hZ hZ3 b1 b2 b3 hb2 hO hs1 hs2 hw1 hw2 hw3
  go_enter Tryd.func24, Tryd.ntmps24
  go_upto_region 16 with fail
  rw [HW1.out, HW2.out, HW3.out]
  go_region_held3 (fun W => W.cell? ⟨w.heap.size, 3, none⟩ = some (.int .i64 o3) ∧ W.cell? ⟨w.heap.size, 2, none⟩ = some (.int .i64 o2) ∧ W.cell? ⟨w.heap.size, 8, none⟩ = some (.string o8))
    (first
      | go_keep
      | (go_split_ands; (repeat' apply And.intro) <;> (simp only [World.cell?_drew]; rw [World.cell?_setCell_far]; assumption; (show (_ : Nat) ≠ _; omega))))
    ((first
      | fail))
  have hx0 : (w3.setCell ⟨w.heap.size + 1 + 1, 3, none⟩ (.int .i64 o3)).heap[w.heap.size + 1 + 1]? = some (.cells #[.int .i64 6, .int .i64 0, .int .i64 0, .int .i64 o3, .int .i64 0, .int .i64 0, .string ⟨#[]⟩, .slice none 0 0, .string ⟨#[]⟩] 24 (0, 0)) := blk_set HO.out 3 (.int .i64 o3)
  have hz0 := (Below.heap_setCell w3 ⟨w.heap.size + 1 + 1, 3, none⟩ (.int .i64 o3) (w.heap.size + 1) hzx).trans HZ.out
  have hb0 := HB.out.setCell (p := ⟨w.heap.size + 1 + 1, 3, none⟩) hwle (.int .i64 o3)
  have hx1 : ((w3.setCell ⟨w.heap.size + 1 + 1, 3, none⟩ (.int .i64 o3)).setCell ⟨w.heap.size + 1 + 1, 2, none⟩ (.int .i64 o2)).heap[w.heap.size + 1 + 1]? = some (.cells #[.int .i64 6, .int .i64 0, .int .i64 o2, .int .i64 o3, .int .i64 0, .int .i64 0, .string ⟨#[]⟩, .slice none 0 0, .string ⟨#[]⟩] 24 (0, 0)) := blk_set hx0 2 (.int .i64 o2)
  have hz1 := (Below.heap_setCell (w3.setCell ⟨w.heap.size + 1 + 1, 3, none⟩ (.int .i64 o3)) ⟨w.heap.size + 1 + 1, 2, none⟩ (.int .i64 o2) (w.heap.size + 1) hzx).trans hz0
  have hb1 := hb0.setCell (p := ⟨w.heap.size + 1 + 1, 2, none⟩) hwle (.int .i64 o2)
  have hx2 : (((w3.setCell ⟨w.heap.size + 1 + 1, 3, none⟩ (.int .i64 o3)).setCell ⟨w.heap.size + 1 + 1, 2, none⟩ (.int .i64 o2)).setCell ⟨w.heap.size + 1 + 1, 8, none⟩ (.string o8)).heap[w.heap.size + 1 + 1]? = some (.cells #[.int .i64 6, .int .i64 0, .int .i64 o2, .int .i64 o3, .int .i64 0, .int .i64 0, .string ⟨#[]⟩, .slice none 0 0, .string o8] 24 (0, 0)) := blk_set hx1 8 (.string o8)
  have hz2 := (Below.heap_setCell ((w3.setCell ⟨w.heap.size + 1 + 1, 3, none⟩ (.int .i64 o3)).setCell ⟨w.heap.size + 1 + 1, 2, none⟩ (.int .i64 o2)) ⟨w.heap.size + 1 + 1, 8, none⟩ (.string o8) (w.heap.size + 1) hzx).trans hz1
  have hb2 := hb1.setCell (p := ⟨w.heap.size + 1 + 1, 8, none⟩) hwle (.string o8)
  have hx := blk_drew hx2
  have hz := blk_drew hz2
  have hb := below_drew1 hb2
  clear hx0 hz0 hb0 hx1 hz1 hb1 hx2 hz2 hb2
  obtain ⟨wq, hwq⟩ : ∃ wq, (((w3.setCell ⟨w.heap.size + 1 + 1, 3, none⟩ (.int .i64 o3)).setCell ⟨w.heap.size + 1 + 1, 2, none⟩ (.int .i64 o2)).setCell ⟨w.heap.size + 1 + 1, 8, none⟩ (.string o8)).drew = wq := ⟨_, rfl⟩
  rw [hwq] at hx hz hb ⊢
  clear hwq
  clear HX HW1 HW2 HW3 HO HZ HB cX0 cO0 fO0 cX1 cO1 fO1 cX2 cO2 fO2 cX3 cO3 fO3 cX4 cO4 fO4 cX5 cO5 fO5 cX6 cO6 fO6 cX7 cO7 fO7 cX8 cO8 fO8
  have cQ0 : wq.cell? ⟨w.heap.size + 1 + 1, 0, none⟩ = some (.int .i64 6) := cell_of_row _ _ 0 _ _ _ hx
  have cQ1 : wq.cell? ⟨w.heap.size + 1 + 1, 1, none⟩ = some (.int .i64 0) := cell_of_row _ _ 1 _ _ _ hx
  have cQ2 : wq.cell? ⟨w.heap.size + 1 + 1, 2, none⟩ = some (.int .i64 o2) := cell_of_row _ _ 2 _ _ _ hx
  have cQ3 : wq.cell? ⟨w.heap.size + 1 + 1, 3, none⟩ = some (.int .i64 o3) := cell_of_row _ _ 3 _ _ _ hx
  have cQ4 : wq.cell? ⟨w.heap.size + 1 + 1, 4, none⟩ = some (.int .i64 0) := cell_of_row _ _ 4 _ _ _ hx
  have cQ5 : wq.cell? ⟨w.heap.size + 1 + 1, 5, none⟩ = some (.int .i64 0) := cell_of_row _ _ 5 _ _ _ hx
  have cQ6 : wq.cell? ⟨w.heap.size + 1 + 1, 6, none⟩ = some (.string ⟨#[]⟩) := cell_of_row _ _ 6 _ _ _ hx
  have cQ7 : wq.cell? ⟨w.heap.size + 1 + 1, 7, none⟩ = some (.slice none 0 0) := cell_of_row _ _ 7 _ _ _ hx
  have cQ8 : wq.cell? ⟨w.heap.size + 1 + 1, 8, none⟩ = some (.string o8) := cell_of_row _ _ 8 _ _ _ hx
  have cZ0 : wq.cell? ⟨w.heap.size + 1, 0, none⟩ = some (.int .i64 0) := cell_of_row _ _ 0 _ _ _ hz
  have cZ1 : wq.cell? ⟨w.heap.size + 1, 1, none⟩ = some (.int .i64 0) := cell_of_row _ _ 1 _ _ _ hz
  have cZ2 : wq.cell? ⟨w.heap.size + 1, 2, none⟩ = some (.int .i64 0) := cell_of_row _ _ 2 _ _ _ hz
  have cZ3 : wq.cell? ⟨w.heap.size + 1, 3, none⟩ = some (.int .i64 0) := cell_of_row _ _ 3 _ _ _ hz
  have cZ4 : wq.cell? ⟨w.heap.size + 1, 4, none⟩ = some (.int .i64 0) := cell_of_row _ _ 4 _ _ _ hz
  have cZ5 : wq.cell? ⟨w.heap.size + 1, 5, none⟩ = some (.int .i64 0) := cell_of_row _ _ 5 _ _ _ hz
  have cZ6 : wq.cell? ⟨w.heap.size + 1, 6, none⟩ = some (.string ⟨#[]⟩) := cell_of_row _ _ 6 _ _ _ hz
  have cZ7 : wq.cell? ⟨w.heap.size + 1, 7, none⟩ = some (.slice none 0 0) := cell_of_row _ _ 7 _ _ _ hz
  have cZ8 : wq.cell? ⟨w.heap.size + 1, 8, none⟩ = some (.string ⟨#[]⟩) := cell_of_row _ _ 8 _ _ _ hz
  have fZ0 := blk_frozen hz 0
  have fZ1 := blk_frozen hz 1
  have fZ2 := blk_frozen hz 2
  have fZ3 := blk_frozen hz 3
  have fZ4 := blk_frozen hz 4
  have fZ5 := blk_frozen hz 5
  have fZ6 := blk_frozen hz 6
  have fZ7 := blk_frozen hz 7
  have fZ8 := blk_frozen hz 8
  have HZ := hide hz
  have HB := hide hb
  clear hx hz hb hne1 hne2 hzx hwle
  go_wp2_with fail
  exact ⟨rfl, _, res_op2 (set9_blk HZ.out (.int .i64 6) (.int .i64 0) (.int .i64 o2) (.int .i64 o3) (.int .i64 0) (.int .i64 0) (.string ⟨#[]⟩) (.slice none 0 0) (.string o8)) 2 3 _ rfl rfl rfl, rfl, set9_below HB.out (by omega) (.int .i64 6) (.int .i64 0) (.int .i64 o2) (.int .i64 o3) (.int .i64 0) (.int .i64 0) (.string ⟨#[]⟩) (.slice none 0 0) (.string o8)⟩

set_option maxHeartbeats 4000000 in
set_option maxRecDepth 100000 in
theorem asked7 (o1 o2 o3 o4 o5 : Int) (o6 : ByteArray) (A : Option Addr) (n c : Nat) (o8 : ByteArray) (w : World) :
    Calls Tryd.prog 24 #[.agg #[.int .i64 7, .int .i64 o1, .int .i64 o2, .int .i64 o3, .int .i64 o4, .int .i64 o5, .string o6, .slice A n c, .string o8]] w fun e w' => e = .returned (.tuple #[.agg #[.int .i64 7, .int .i64 o1, .int .i64 0, .int .i64 0, .int .i64 0, .int .i64 0, .string ⟨#[]⟩, .slice none 0 0, .string ⟨#[]⟩], .bool true]) ∧ Below w.heap.size w w' := by
  have hX := heap_alloc_new w (.cells #[.int .i64 7, .int .i64 o1, .int .i64 o2, .int .i64 o3, .int .i64 o4, .int .i64 o5, .string o6, .slice A n c, .string o8] 24)
  have b1 := below_alloc (Below.refl w.heap.size w) (.cells #[.int .i64 7, .int .i64 o1, .int .i64 o2, .int .i64 o3, .int .i64 o4, .int .i64 o5, .string o6, .slice A n c, .string o8] 24)
  obtain ⟨w1, hw1⟩ : ∃ w1, w.alloc (.cells #[.int .i64 7, .int .i64 o1, .int .i64 o2, .int .i64 o3, .int .i64 o4, .int .i64 o5, .string o6, .slice A n c, .string o8] 24) = w1 := ⟨_, rfl⟩
  have hs1 : w1.heap.size = w.heap.size + 1 := by rw [← hw1]; simp
  rw [hw1] at hX b1
  have hZ := heap_alloc_new w1 (.cells #[.int .i64 0, .int .i64 0, .int .i64 0, .int .i64 0, .int .i64 0, .int .i64 0, .string ⟨#[]⟩, .slice none 0 0, .string ⟨#[]⟩] 24)
  have b2 := below_alloc (Below.refl w1.heap.size w1) (.cells #[.int .i64 0, .int .i64 0, .int .i64 0, .int .i64 0, .int .i64 0, .int .i64 0, .string ⟨#[]⟩, .slice none 0 0, .string ⟨#[]⟩] 24)
  obtain ⟨w2, hw2⟩ : ∃ w2, w1.alloc (.cells #[.int .i64 0, .int .i64 0, .int .i64 0, .int .i64 0, .int .i64 0, .int .i64 0, .string ⟨#[]⟩, .slice none 0 0, .string ⟨#[]⟩] 24) = w2 := ⟨_, rfl⟩
  have hs2 : w2.heap.size = w.heap.size + 1 + 1 := by rw [← hw2]; simp [hs1]
  rw [hw2] at hZ b2
  rw [hs1] at hZ
  have hX2 := (b2.block _ (blk_lt hX)).trans hX
  have hb2 := below_step b1 b2
  have hO := heap_alloc_new w2 (.cells #[.int .i64 7, .int .i64 0, .int .i64 0, .int .i64 0, .int .i64 0, .int .i64 0, .string ⟨#[]⟩, .slice none 0 0, .string ⟨#[]⟩] 24)
  have b3 := below_alloc (Below.refl w2.heap.size w2) (.cells #[.int .i64 7, .int .i64 0, .int .i64 0, .int .i64 0, .int .i64 0, .int .i64 0, .string ⟨#[]⟩, .slice none 0 0, .string ⟨#[]⟩] 24)
  obtain ⟨w3, hw3⟩ : ∃ w3, w2.alloc (.cells #[.int .i64 7, .int .i64 0, .int .i64 0, .int .i64 0, .int .i64 0, .int .i64 0, .string ⟨#[]⟩, .slice none 0 0, .string ⟨#[]⟩] 24) = w3 := ⟨_, rfl⟩
  rw [hw3] at hO b3
  rw [hs2] at hO
  have hX3 := (b3.block _ (blk_lt hX2)).trans hX2
  have hZ3 := (b3.block _ (blk_lt hZ)).trans hZ
  have HX := hide hX3
  have HZ := hide hZ3
  have HB := hide (below_step hb2 b3)
  have HO := hide hO
  have HW1 := hide hw1
  have HW2 := hide hw2
  have HW3 := hide hw3
  have cX0 : w3.cell? ⟨w.heap.size, 0, none⟩ = some (.int .i64 7) := cell_of_row _ _ 0 _ _ _ hX3
  have cX1 : w3.cell? ⟨w.heap.size, 1, none⟩ = some (.int .i64 o1) := cell_of_row _ _ 1 _ _ _ hX3
  have cX2 : w3.cell? ⟨w.heap.size, 2, none⟩ = some (.int .i64 o2) := cell_of_row _ _ 2 _ _ _ hX3
  have cX3 : w3.cell? ⟨w.heap.size, 3, none⟩ = some (.int .i64 o3) := cell_of_row _ _ 3 _ _ _ hX3
  have cX4 : w3.cell? ⟨w.heap.size, 4, none⟩ = some (.int .i64 o4) := cell_of_row _ _ 4 _ _ _ hX3
  have cX5 : w3.cell? ⟨w.heap.size, 5, none⟩ = some (.int .i64 o5) := cell_of_row _ _ 5 _ _ _ hX3
  have cX6 : w3.cell? ⟨w.heap.size, 6, none⟩ = some (.string o6) := cell_of_row _ _ 6 _ _ _ hX3
  have cX7 : w3.cell? ⟨w.heap.size, 7, none⟩ = some (.slice A n c) := cell_of_row _ _ 7 _ _ _ hX3
  have cX8 : w3.cell? ⟨w.heap.size, 8, none⟩ = some (.string o8) := cell_of_row _ _ 8 _ _ _ hX3
  have cO0 : w3.cell? ⟨w.heap.size + 1 + 1, 0, none⟩ = some (.int .i64 7) := cell_of_row _ _ 0 _ _ _ hO
  have cO1 : w3.cell? ⟨w.heap.size + 1 + 1, 1, none⟩ = some (.int .i64 0) := cell_of_row _ _ 1 _ _ _ hO
  have cO2 : w3.cell? ⟨w.heap.size + 1 + 1, 2, none⟩ = some (.int .i64 0) := cell_of_row _ _ 2 _ _ _ hO
  have cO3 : w3.cell? ⟨w.heap.size + 1 + 1, 3, none⟩ = some (.int .i64 0) := cell_of_row _ _ 3 _ _ _ hO
  have cO4 : w3.cell? ⟨w.heap.size + 1 + 1, 4, none⟩ = some (.int .i64 0) := cell_of_row _ _ 4 _ _ _ hO
  have cO5 : w3.cell? ⟨w.heap.size + 1 + 1, 5, none⟩ = some (.int .i64 0) := cell_of_row _ _ 5 _ _ _ hO
  have cO6 : w3.cell? ⟨w.heap.size + 1 + 1, 6, none⟩ = some (.string ⟨#[]⟩) := cell_of_row _ _ 6 _ _ _ hO
  have cO7 : w3.cell? ⟨w.heap.size + 1 + 1, 7, none⟩ = some (.slice none 0 0) := cell_of_row _ _ 7 _ _ _ hO
  have cO8 : w3.cell? ⟨w.heap.size + 1 + 1, 8, none⟩ = some (.string ⟨#[]⟩) := cell_of_row _ _ 8 _ _ _ hO
  have fO0 := blk_frozen hO 0
  have fO1 := blk_frozen hO 1
  have fO2 := blk_frozen hO 2
  have fO3 := blk_frozen hO 3
  have fO4 := blk_frozen hO 4
  have fO5 := blk_frozen hO 5
  have fO6 := blk_frozen hO 6
  have fO7 := blk_frozen hO 7
  have fO8 := blk_frozen hO 8
  have hzx : w.heap.size + 1 ≠ w.heap.size + 1 + 1 := by omega
  have hwle : w.heap.size ≤ w.heap.size + 1 + 1 := by omega
  have hne1 : ¬ w.heap.size + 1 + 1 = w.heap.size := by omega
  have hne2 : ¬ w.heap.size = w.heap.size + 1 + 1 := by omega
  clear hX hX2 hX3 hZ hZ3 b1 b2 b3 hb2 hO hs1 hs2 hw1 hw2 hw3
  go_enter Tryd.func24, Tryd.ntmps24
  go_upto_region 18 with fail
  rw [HW1.out, HW2.out, HW3.out]
  have hx0 : (w3.setCell ⟨w.heap.size + 1 + 1, 1, none⟩ (.int .i64 o1)).heap[w.heap.size + 1 + 1]? = some (.cells #[.int .i64 7, .int .i64 o1, .int .i64 0, .int .i64 0, .int .i64 0, .int .i64 0, .string ⟨#[]⟩, .slice none 0 0, .string ⟨#[]⟩] 24 (0, 0)) := blk_set HO.out 1 (.int .i64 o1)
  have hz0 := (Below.heap_setCell w3 ⟨w.heap.size + 1 + 1, 1, none⟩ (.int .i64 o1) (w.heap.size + 1) hzx).trans HZ.out
  have hb0 := HB.out.setCell (p := ⟨w.heap.size + 1 + 1, 1, none⟩) hwle (.int .i64 o1)
  have hx := hx0
  have hz := hz0
  have hb := hb0
  have cZ0 : w3.cell? ⟨w.heap.size + 1, 0, none⟩ = some (.int .i64 0) := cell_of_row _ _ 0 _ _ _ HZ.out
  have cZ1 : w3.cell? ⟨w.heap.size + 1, 1, none⟩ = some (.int .i64 0) := cell_of_row _ _ 1 _ _ _ HZ.out
  have cZ2 : w3.cell? ⟨w.heap.size + 1, 2, none⟩ = some (.int .i64 0) := cell_of_row _ _ 2 _ _ _ HZ.out
  have cZ3 : w3.cell? ⟨w.heap.size + 1, 3, none⟩ = some (.int .i64 0) := cell_of_row _ _ 3 _ _ _ HZ.out
  have cZ4 : w3.cell? ⟨w.heap.size + 1, 4, none⟩ = some (.int .i64 0) := cell_of_row _ _ 4 _ _ _ HZ.out
  have cZ5 : w3.cell? ⟨w.heap.size + 1, 5, none⟩ = some (.int .i64 0) := cell_of_row _ _ 5 _ _ _ HZ.out
  have cZ6 : w3.cell? ⟨w.heap.size + 1, 6, none⟩ = some (.string ⟨#[]⟩) := cell_of_row _ _ 6 _ _ _ HZ.out
  have cZ7 : w3.cell? ⟨w.heap.size + 1, 7, none⟩ = some (.slice none 0 0) := cell_of_row _ _ 7 _ _ _ HZ.out
  have cZ8 : w3.cell? ⟨w.heap.size + 1, 8, none⟩ = some (.string ⟨#[]⟩) := cell_of_row _ _ 8 _ _ _ HZ.out
  have fZ0 := blk_frozen HZ.out 0
  have fZ1 := blk_frozen HZ.out 1
  have fZ2 := blk_frozen HZ.out 2
  have fZ3 := blk_frozen HZ.out 3
  have fZ4 := blk_frozen HZ.out 4
  have fZ5 := blk_frozen HZ.out 5
  have fZ6 := blk_frozen HZ.out 6
  have fZ7 := blk_frozen HZ.out 7
  have fZ8 := blk_frozen HZ.out 8
  have HZ1 := hide hz
  have HB1 := hide hb
  clear hx0 hz0 hb0 hx hz hb hne1 hne2 hzx hwle
  go_wp2_with fail
  exact ⟨rfl, _, res_op2 (set9_blk HZ1.out (.int .i64 7) (.int .i64 o1) (.int .i64 0) (.int .i64 0) (.int .i64 0) (.int .i64 0) (.string ⟨#[]⟩) (.slice none 0 0) (.string ⟨#[]⟩)) 2 3 _ rfl rfl rfl, rfl, set9_below HB1.out (by omega) (.int .i64 7) (.int .i64 o1) (.int .i64 0) (.int .i64 0) (.int .i64 0) (.int .i64 0) (.string ⟨#[]⟩) (.slice none 0 0) (.string ⟨#[]⟩)⟩

set_option maxHeartbeats 4000000 in
set_option maxRecDepth 100000 in
theorem asked8 (o1 o2 o3 o4 o5 : Int) (o6 : ByteArray) (A : Option Addr) (n c : Nat) (o8 : ByteArray) (w : World) :
    Calls Tryd.prog 24 #[.agg #[.int .i64 8, .int .i64 o1, .int .i64 o2, .int .i64 o3, .int .i64 o4, .int .i64 o5, .string o6, .slice A n c, .string o8]] w fun e w' => e = .returned (.tuple #[.agg #[.int .i64 8, .int .i64 0, .int .i64 o2, .int .i64 o3, .int .i64 0, .int .i64 0, .string ⟨#[]⟩, .slice none 0 0, .string ⟨#[]⟩], .bool true]) ∧ Below w.heap.size w w' := by
  have hX := heap_alloc_new w (.cells #[.int .i64 8, .int .i64 o1, .int .i64 o2, .int .i64 o3, .int .i64 o4, .int .i64 o5, .string o6, .slice A n c, .string o8] 24)
  have b1 := below_alloc (Below.refl w.heap.size w) (.cells #[.int .i64 8, .int .i64 o1, .int .i64 o2, .int .i64 o3, .int .i64 o4, .int .i64 o5, .string o6, .slice A n c, .string o8] 24)
  obtain ⟨w1, hw1⟩ : ∃ w1, w.alloc (.cells #[.int .i64 8, .int .i64 o1, .int .i64 o2, .int .i64 o3, .int .i64 o4, .int .i64 o5, .string o6, .slice A n c, .string o8] 24) = w1 := ⟨_, rfl⟩
  have hs1 : w1.heap.size = w.heap.size + 1 := by rw [← hw1]; simp
  rw [hw1] at hX b1
  have hZ := heap_alloc_new w1 (.cells #[.int .i64 0, .int .i64 0, .int .i64 0, .int .i64 0, .int .i64 0, .int .i64 0, .string ⟨#[]⟩, .slice none 0 0, .string ⟨#[]⟩] 24)
  have b2 := below_alloc (Below.refl w1.heap.size w1) (.cells #[.int .i64 0, .int .i64 0, .int .i64 0, .int .i64 0, .int .i64 0, .int .i64 0, .string ⟨#[]⟩, .slice none 0 0, .string ⟨#[]⟩] 24)
  obtain ⟨w2, hw2⟩ : ∃ w2, w1.alloc (.cells #[.int .i64 0, .int .i64 0, .int .i64 0, .int .i64 0, .int .i64 0, .int .i64 0, .string ⟨#[]⟩, .slice none 0 0, .string ⟨#[]⟩] 24) = w2 := ⟨_, rfl⟩
  have hs2 : w2.heap.size = w.heap.size + 1 + 1 := by rw [← hw2]; simp [hs1]
  rw [hw2] at hZ b2
  rw [hs1] at hZ
  have hX2 := (b2.block _ (blk_lt hX)).trans hX
  have hb2 := below_step b1 b2
  have hO := heap_alloc_new w2 (.cells #[.int .i64 8, .int .i64 0, .int .i64 0, .int .i64 0, .int .i64 0, .int .i64 0, .string ⟨#[]⟩, .slice none 0 0, .string ⟨#[]⟩] 24)
  have b3 := below_alloc (Below.refl w2.heap.size w2) (.cells #[.int .i64 8, .int .i64 0, .int .i64 0, .int .i64 0, .int .i64 0, .int .i64 0, .string ⟨#[]⟩, .slice none 0 0, .string ⟨#[]⟩] 24)
  obtain ⟨w3, hw3⟩ : ∃ w3, w2.alloc (.cells #[.int .i64 8, .int .i64 0, .int .i64 0, .int .i64 0, .int .i64 0, .int .i64 0, .string ⟨#[]⟩, .slice none 0 0, .string ⟨#[]⟩] 24) = w3 := ⟨_, rfl⟩
  rw [hw3] at hO b3
  rw [hs2] at hO
  have hX3 := (b3.block _ (blk_lt hX2)).trans hX2
  have hZ3 := (b3.block _ (blk_lt hZ)).trans hZ
  have HX := hide hX3
  have HZ := hide hZ3
  have HB := hide (below_step hb2 b3)
  have HO := hide hO
  have HW1 := hide hw1
  have HW2 := hide hw2
  have HW3 := hide hw3
  have cX0 : w3.cell? ⟨w.heap.size, 0, none⟩ = some (.int .i64 8) := cell_of_row _ _ 0 _ _ _ hX3
  have cX1 : w3.cell? ⟨w.heap.size, 1, none⟩ = some (.int .i64 o1) := cell_of_row _ _ 1 _ _ _ hX3
  have cX2 : w3.cell? ⟨w.heap.size, 2, none⟩ = some (.int .i64 o2) := cell_of_row _ _ 2 _ _ _ hX3
  have cX3 : w3.cell? ⟨w.heap.size, 3, none⟩ = some (.int .i64 o3) := cell_of_row _ _ 3 _ _ _ hX3
  have cX4 : w3.cell? ⟨w.heap.size, 4, none⟩ = some (.int .i64 o4) := cell_of_row _ _ 4 _ _ _ hX3
  have cX5 : w3.cell? ⟨w.heap.size, 5, none⟩ = some (.int .i64 o5) := cell_of_row _ _ 5 _ _ _ hX3
  have cX6 : w3.cell? ⟨w.heap.size, 6, none⟩ = some (.string o6) := cell_of_row _ _ 6 _ _ _ hX3
  have cX7 : w3.cell? ⟨w.heap.size, 7, none⟩ = some (.slice A n c) := cell_of_row _ _ 7 _ _ _ hX3
  have cX8 : w3.cell? ⟨w.heap.size, 8, none⟩ = some (.string o8) := cell_of_row _ _ 8 _ _ _ hX3
  have cO0 : w3.cell? ⟨w.heap.size + 1 + 1, 0, none⟩ = some (.int .i64 8) := cell_of_row _ _ 0 _ _ _ hO
  have cO1 : w3.cell? ⟨w.heap.size + 1 + 1, 1, none⟩ = some (.int .i64 0) := cell_of_row _ _ 1 _ _ _ hO
  have cO2 : w3.cell? ⟨w.heap.size + 1 + 1, 2, none⟩ = some (.int .i64 0) := cell_of_row _ _ 2 _ _ _ hO
  have cO3 : w3.cell? ⟨w.heap.size + 1 + 1, 3, none⟩ = some (.int .i64 0) := cell_of_row _ _ 3 _ _ _ hO
  have cO4 : w3.cell? ⟨w.heap.size + 1 + 1, 4, none⟩ = some (.int .i64 0) := cell_of_row _ _ 4 _ _ _ hO
  have cO5 : w3.cell? ⟨w.heap.size + 1 + 1, 5, none⟩ = some (.int .i64 0) := cell_of_row _ _ 5 _ _ _ hO
  have cO6 : w3.cell? ⟨w.heap.size + 1 + 1, 6, none⟩ = some (.string ⟨#[]⟩) := cell_of_row _ _ 6 _ _ _ hO
  have cO7 : w3.cell? ⟨w.heap.size + 1 + 1, 7, none⟩ = some (.slice none 0 0) := cell_of_row _ _ 7 _ _ _ hO
  have cO8 : w3.cell? ⟨w.heap.size + 1 + 1, 8, none⟩ = some (.string ⟨#[]⟩) := cell_of_row _ _ 8 _ _ _ hO
  have fO0 := blk_frozen hO 0
  have fO1 := blk_frozen hO 1
  have fO2 := blk_frozen hO 2
  have fO3 := blk_frozen hO 3
  have fO4 := blk_frozen hO 4
  have fO5 := blk_frozen hO 5
  have fO6 := blk_frozen hO 6
  have fO7 := blk_frozen hO 7
  have fO8 := blk_frozen hO 8
  have hzx : w.heap.size + 1 ≠ w.heap.size + 1 + 1 := by omega
  have hwle : w.heap.size ≤ w.heap.size + 1 + 1 := by omega
  have hne1 : ¬ w.heap.size + 1 + 1 = w.heap.size := by omega
  have hne2 : ¬ w.heap.size = w.heap.size + 1 + 1 := by omega
  clear hX hX2 hX3 hZ hZ3 b1 b2 b3 hb2 hO hs1 hs2 hw1 hw2 hw3
  go_enter Tryd.func24, Tryd.ntmps24
  go_upto_region 20 with fail
  rw [HW1.out, HW2.out, HW3.out]
  go_region_held3 (fun W => W.cell? ⟨w.heap.size, 3, none⟩ = some (.int .i64 o3) ∧ W.cell? ⟨w.heap.size, 2, none⟩ = some (.int .i64 o2))
    (first
      | go_keep
      | (go_split_ands; (repeat' apply And.intro) <;> (simp only [World.cell?_drew]; rw [World.cell?_setCell_far]; assumption; (show (_ : Nat) ≠ _; omega))))
    ((first
      | fail))
  have hx0 : (w3.setCell ⟨w.heap.size + 1 + 1, 3, none⟩ (.int .i64 o3)).heap[w.heap.size + 1 + 1]? = some (.cells #[.int .i64 8, .int .i64 0, .int .i64 0, .int .i64 o3, .int .i64 0, .int .i64 0, .string ⟨#[]⟩, .slice none 0 0, .string ⟨#[]⟩] 24 (0, 0)) := blk_set HO.out 3 (.int .i64 o3)
  have hz0 := (Below.heap_setCell w3 ⟨w.heap.size + 1 + 1, 3, none⟩ (.int .i64 o3) (w.heap.size + 1) hzx).trans HZ.out
  have hb0 := HB.out.setCell (p := ⟨w.heap.size + 1 + 1, 3, none⟩) hwle (.int .i64 o3)
  have hx1 : ((w3.setCell ⟨w.heap.size + 1 + 1, 3, none⟩ (.int .i64 o3)).setCell ⟨w.heap.size + 1 + 1, 2, none⟩ (.int .i64 o2)).heap[w.heap.size + 1 + 1]? = some (.cells #[.int .i64 8, .int .i64 0, .int .i64 o2, .int .i64 o3, .int .i64 0, .int .i64 0, .string ⟨#[]⟩, .slice none 0 0, .string ⟨#[]⟩] 24 (0, 0)) := blk_set hx0 2 (.int .i64 o2)
  have hz1 := (Below.heap_setCell (w3.setCell ⟨w.heap.size + 1 + 1, 3, none⟩ (.int .i64 o3)) ⟨w.heap.size + 1 + 1, 2, none⟩ (.int .i64 o2) (w.heap.size + 1) hzx).trans hz0
  have hb1 := hb0.setCell (p := ⟨w.heap.size + 1 + 1, 2, none⟩) hwle (.int .i64 o2)
  have hx := blk_drew hx1
  have hz := blk_drew hz1
  have hb := below_drew1 hb1
  clear hx0 hz0 hb0 hx1 hz1 hb1
  obtain ⟨wq, hwq⟩ : ∃ wq, ((w3.setCell ⟨w.heap.size + 1 + 1, 3, none⟩ (.int .i64 o3)).setCell ⟨w.heap.size + 1 + 1, 2, none⟩ (.int .i64 o2)).drew = wq := ⟨_, rfl⟩
  rw [hwq] at hx hz hb ⊢
  clear hwq
  clear HX HW1 HW2 HW3 HO HZ HB cX0 cO0 fO0 cX1 cO1 fO1 cX2 cO2 fO2 cX3 cO3 fO3 cX4 cO4 fO4 cX5 cO5 fO5 cX6 cO6 fO6 cX7 cO7 fO7 cX8 cO8 fO8
  have cQ0 : wq.cell? ⟨w.heap.size + 1 + 1, 0, none⟩ = some (.int .i64 8) := cell_of_row _ _ 0 _ _ _ hx
  have cQ1 : wq.cell? ⟨w.heap.size + 1 + 1, 1, none⟩ = some (.int .i64 0) := cell_of_row _ _ 1 _ _ _ hx
  have cQ2 : wq.cell? ⟨w.heap.size + 1 + 1, 2, none⟩ = some (.int .i64 o2) := cell_of_row _ _ 2 _ _ _ hx
  have cQ3 : wq.cell? ⟨w.heap.size + 1 + 1, 3, none⟩ = some (.int .i64 o3) := cell_of_row _ _ 3 _ _ _ hx
  have cQ4 : wq.cell? ⟨w.heap.size + 1 + 1, 4, none⟩ = some (.int .i64 0) := cell_of_row _ _ 4 _ _ _ hx
  have cQ5 : wq.cell? ⟨w.heap.size + 1 + 1, 5, none⟩ = some (.int .i64 0) := cell_of_row _ _ 5 _ _ _ hx
  have cQ6 : wq.cell? ⟨w.heap.size + 1 + 1, 6, none⟩ = some (.string ⟨#[]⟩) := cell_of_row _ _ 6 _ _ _ hx
  have cQ7 : wq.cell? ⟨w.heap.size + 1 + 1, 7, none⟩ = some (.slice none 0 0) := cell_of_row _ _ 7 _ _ _ hx
  have cQ8 : wq.cell? ⟨w.heap.size + 1 + 1, 8, none⟩ = some (.string ⟨#[]⟩) := cell_of_row _ _ 8 _ _ _ hx
  have cZ0 : wq.cell? ⟨w.heap.size + 1, 0, none⟩ = some (.int .i64 0) := cell_of_row _ _ 0 _ _ _ hz
  have cZ1 : wq.cell? ⟨w.heap.size + 1, 1, none⟩ = some (.int .i64 0) := cell_of_row _ _ 1 _ _ _ hz
  have cZ2 : wq.cell? ⟨w.heap.size + 1, 2, none⟩ = some (.int .i64 0) := cell_of_row _ _ 2 _ _ _ hz
  have cZ3 : wq.cell? ⟨w.heap.size + 1, 3, none⟩ = some (.int .i64 0) := cell_of_row _ _ 3 _ _ _ hz
  have cZ4 : wq.cell? ⟨w.heap.size + 1, 4, none⟩ = some (.int .i64 0) := cell_of_row _ _ 4 _ _ _ hz
  have cZ5 : wq.cell? ⟨w.heap.size + 1, 5, none⟩ = some (.int .i64 0) := cell_of_row _ _ 5 _ _ _ hz
  have cZ6 : wq.cell? ⟨w.heap.size + 1, 6, none⟩ = some (.string ⟨#[]⟩) := cell_of_row _ _ 6 _ _ _ hz
  have cZ7 : wq.cell? ⟨w.heap.size + 1, 7, none⟩ = some (.slice none 0 0) := cell_of_row _ _ 7 _ _ _ hz
  have cZ8 : wq.cell? ⟨w.heap.size + 1, 8, none⟩ = some (.string ⟨#[]⟩) := cell_of_row _ _ 8 _ _ _ hz
  have fZ0 := blk_frozen hz 0
  have fZ1 := blk_frozen hz 1
  have fZ2 := blk_frozen hz 2
  have fZ3 := blk_frozen hz 3
  have fZ4 := blk_frozen hz 4
  have fZ5 := blk_frozen hz 5
  have fZ6 := blk_frozen hz 6
  have fZ7 := blk_frozen hz 7
  have fZ8 := blk_frozen hz 8
  have HZ := hide hz
  have HB := hide hb
  clear hx hz hb hne1 hne2 hzx hwle
  go_wp2_with fail
  exact ⟨rfl, _, res_op2 (set9_blk HZ.out (.int .i64 8) (.int .i64 0) (.int .i64 o2) (.int .i64 o3) (.int .i64 0) (.int .i64 0) (.string ⟨#[]⟩) (.slice none 0 0) (.string ⟨#[]⟩)) 2 3 _ rfl rfl rfl, rfl, set9_below HB.out (by omega) (.int .i64 8) (.int .i64 0) (.int .i64 o2) (.int .i64 o3) (.int .i64 0) (.int .i64 0) (.string ⟨#[]⟩) (.slice none 0 0) (.string ⟨#[]⟩)⟩

set_option maxHeartbeats 4000000 in
set_option maxRecDepth 100000 in
theorem asked10 (o1 o2 o3 o4 o5 : Int) (o6 : ByteArray) (A : Option Addr) (n c : Nat) (o8 : ByteArray) (w : World) :
    Calls Tryd.prog 24 #[.agg #[.int .i64 10, .int .i64 o1, .int .i64 o2, .int .i64 o3, .int .i64 o4, .int .i64 o5, .string o6, .slice A n c, .string o8]] w fun e w' => e = .returned (.tuple #[.agg #[.int .i64 10, .int .i64 o1, .int .i64 0, .int .i64 0, .int .i64 0, .int .i64 0, .string ⟨#[]⟩, .slice A n c, .string ⟨#[]⟩], .bool true]) ∧ Below w.heap.size w w' := by
  have hX := heap_alloc_new w (.cells #[.int .i64 10, .int .i64 o1, .int .i64 o2, .int .i64 o3, .int .i64 o4, .int .i64 o5, .string o6, .slice A n c, .string o8] 24)
  have b1 := below_alloc (Below.refl w.heap.size w) (.cells #[.int .i64 10, .int .i64 o1, .int .i64 o2, .int .i64 o3, .int .i64 o4, .int .i64 o5, .string o6, .slice A n c, .string o8] 24)
  obtain ⟨w1, hw1⟩ : ∃ w1, w.alloc (.cells #[.int .i64 10, .int .i64 o1, .int .i64 o2, .int .i64 o3, .int .i64 o4, .int .i64 o5, .string o6, .slice A n c, .string o8] 24) = w1 := ⟨_, rfl⟩
  have hs1 : w1.heap.size = w.heap.size + 1 := by rw [← hw1]; simp
  rw [hw1] at hX b1
  have hZ := heap_alloc_new w1 (.cells #[.int .i64 0, .int .i64 0, .int .i64 0, .int .i64 0, .int .i64 0, .int .i64 0, .string ⟨#[]⟩, .slice none 0 0, .string ⟨#[]⟩] 24)
  have b2 := below_alloc (Below.refl w1.heap.size w1) (.cells #[.int .i64 0, .int .i64 0, .int .i64 0, .int .i64 0, .int .i64 0, .int .i64 0, .string ⟨#[]⟩, .slice none 0 0, .string ⟨#[]⟩] 24)
  obtain ⟨w2, hw2⟩ : ∃ w2, w1.alloc (.cells #[.int .i64 0, .int .i64 0, .int .i64 0, .int .i64 0, .int .i64 0, .int .i64 0, .string ⟨#[]⟩, .slice none 0 0, .string ⟨#[]⟩] 24) = w2 := ⟨_, rfl⟩
  have hs2 : w2.heap.size = w.heap.size + 1 + 1 := by rw [← hw2]; simp [hs1]
  rw [hw2] at hZ b2
  rw [hs1] at hZ
  have hX2 := (b2.block _ (blk_lt hX)).trans hX
  have hb2 := below_step b1 b2
  have hO := heap_alloc_new w2 (.cells #[.int .i64 10, .int .i64 0, .int .i64 0, .int .i64 0, .int .i64 0, .int .i64 0, .string ⟨#[]⟩, .slice none 0 0, .string ⟨#[]⟩] 24)
  have b3 := below_alloc (Below.refl w2.heap.size w2) (.cells #[.int .i64 10, .int .i64 0, .int .i64 0, .int .i64 0, .int .i64 0, .int .i64 0, .string ⟨#[]⟩, .slice none 0 0, .string ⟨#[]⟩] 24)
  obtain ⟨w3, hw3⟩ : ∃ w3, w2.alloc (.cells #[.int .i64 10, .int .i64 0, .int .i64 0, .int .i64 0, .int .i64 0, .int .i64 0, .string ⟨#[]⟩, .slice none 0 0, .string ⟨#[]⟩] 24) = w3 := ⟨_, rfl⟩
  rw [hw3] at hO b3
  rw [hs2] at hO
  have hX3 := (b3.block _ (blk_lt hX2)).trans hX2
  have hZ3 := (b3.block _ (blk_lt hZ)).trans hZ
  have HX := hide hX3
  have HZ := hide hZ3
  have HB := hide (below_step hb2 b3)
  have HO := hide hO
  have HW1 := hide hw1
  have HW2 := hide hw2
  have HW3 := hide hw3
  have cX0 : w3.cell? ⟨w.heap.size, 0, none⟩ = some (.int .i64 10) := cell_of_row _ _ 0 _ _ _ hX3
  have cX1 : w3.cell? ⟨w.heap.size, 1, none⟩ = some (.int .i64 o1) := cell_of_row _ _ 1 _ _ _ hX3
  have cX2 : w3.cell? ⟨w.heap.size, 2, none⟩ = some (.int .i64 o2) := cell_of_row _ _ 2 _ _ _ hX3
  have cX3 : w3.cell? ⟨w.heap.size, 3, none⟩ = some (.int .i64 o3) := cell_of_row _ _ 3 _ _ _ hX3
  have cX4 : w3.cell? ⟨w.heap.size, 4, none⟩ = some (.int .i64 o4) := cell_of_row _ _ 4 _ _ _ hX3
  have cX5 : w3.cell? ⟨w.heap.size, 5, none⟩ = some (.int .i64 o5) := cell_of_row _ _ 5 _ _ _ hX3
  have cX6 : w3.cell? ⟨w.heap.size, 6, none⟩ = some (.string o6) := cell_of_row _ _ 6 _ _ _ hX3
  have cX7 : w3.cell? ⟨w.heap.size, 7, none⟩ = some (.slice A n c) := cell_of_row _ _ 7 _ _ _ hX3
  have cX8 : w3.cell? ⟨w.heap.size, 8, none⟩ = some (.string o8) := cell_of_row _ _ 8 _ _ _ hX3
  have cO0 : w3.cell? ⟨w.heap.size + 1 + 1, 0, none⟩ = some (.int .i64 10) := cell_of_row _ _ 0 _ _ _ hO
  have cO1 : w3.cell? ⟨w.heap.size + 1 + 1, 1, none⟩ = some (.int .i64 0) := cell_of_row _ _ 1 _ _ _ hO
  have cO2 : w3.cell? ⟨w.heap.size + 1 + 1, 2, none⟩ = some (.int .i64 0) := cell_of_row _ _ 2 _ _ _ hO
  have cO3 : w3.cell? ⟨w.heap.size + 1 + 1, 3, none⟩ = some (.int .i64 0) := cell_of_row _ _ 3 _ _ _ hO
  have cO4 : w3.cell? ⟨w.heap.size + 1 + 1, 4, none⟩ = some (.int .i64 0) := cell_of_row _ _ 4 _ _ _ hO
  have cO5 : w3.cell? ⟨w.heap.size + 1 + 1, 5, none⟩ = some (.int .i64 0) := cell_of_row _ _ 5 _ _ _ hO
  have cO6 : w3.cell? ⟨w.heap.size + 1 + 1, 6, none⟩ = some (.string ⟨#[]⟩) := cell_of_row _ _ 6 _ _ _ hO
  have cO7 : w3.cell? ⟨w.heap.size + 1 + 1, 7, none⟩ = some (.slice none 0 0) := cell_of_row _ _ 7 _ _ _ hO
  have cO8 : w3.cell? ⟨w.heap.size + 1 + 1, 8, none⟩ = some (.string ⟨#[]⟩) := cell_of_row _ _ 8 _ _ _ hO
  have fO0 := blk_frozen hO 0
  have fO1 := blk_frozen hO 1
  have fO2 := blk_frozen hO 2
  have fO3 := blk_frozen hO 3
  have fO4 := blk_frozen hO 4
  have fO5 := blk_frozen hO 5
  have fO6 := blk_frozen hO 6
  have fO7 := blk_frozen hO 7
  have fO8 := blk_frozen hO 8
  have hzx : w.heap.size + 1 ≠ w.heap.size + 1 + 1 := by omega
  have hwle : w.heap.size ≤ w.heap.size + 1 + 1 := by omega
  have hne1 : ¬ w.heap.size + 1 + 1 = w.heap.size := by omega
  have hne2 : ¬ w.heap.size = w.heap.size + 1 + 1 := by omega
  clear hX hX2 hX3 hZ hZ3 b1 b2 b3 hb2 hO hs1 hs2 hw1 hw2 hw3
  go_enter Tryd.func24, Tryd.ntmps24
  go_upto_region 22 with fail
  rw [HW1.out, HW2.out, HW3.out]
  go_region_held3 (fun W => W.cell? ⟨w.heap.size, 1, none⟩ = some (.int .i64 o1) ∧ W.cell? ⟨w.heap.size, 7, none⟩ = some (.slice A n c))
    (first
      | go_keep
      | (go_split_ands; (repeat' apply And.intro) <;> (simp only [World.cell?_drew]; rw [World.cell?_setCell_far]; assumption; (show (_ : Nat) ≠ _; omega))))
    ((first
      | fail))
  have hx0 : (w3.setCell ⟨w.heap.size + 1 + 1, 1, none⟩ (.int .i64 o1)).heap[w.heap.size + 1 + 1]? = some (.cells #[.int .i64 10, .int .i64 o1, .int .i64 0, .int .i64 0, .int .i64 0, .int .i64 0, .string ⟨#[]⟩, .slice none 0 0, .string ⟨#[]⟩] 24 (0, 0)) := blk_set HO.out 1 (.int .i64 o1)
  have hz0 := (Below.heap_setCell w3 ⟨w.heap.size + 1 + 1, 1, none⟩ (.int .i64 o1) (w.heap.size + 1) hzx).trans HZ.out
  have hb0 := HB.out.setCell (p := ⟨w.heap.size + 1 + 1, 1, none⟩) hwle (.int .i64 o1)
  have hx1 : ((w3.setCell ⟨w.heap.size + 1 + 1, 1, none⟩ (.int .i64 o1)).setCell ⟨w.heap.size + 1 + 1, 7, none⟩ (.slice A n c)).heap[w.heap.size + 1 + 1]? = some (.cells #[.int .i64 10, .int .i64 o1, .int .i64 0, .int .i64 0, .int .i64 0, .int .i64 0, .string ⟨#[]⟩, .slice A n c, .string ⟨#[]⟩] 24 (0, 0)) := blk_set hx0 7 (.slice A n c)
  have hz1 := (Below.heap_setCell (w3.setCell ⟨w.heap.size + 1 + 1, 1, none⟩ (.int .i64 o1)) ⟨w.heap.size + 1 + 1, 7, none⟩ (.slice A n c) (w.heap.size + 1) hzx).trans hz0
  have hb1 := hb0.setCell (p := ⟨w.heap.size + 1 + 1, 7, none⟩) hwle (.slice A n c)
  have hx := blk_drew hx1
  have hz := blk_drew hz1
  have hb := below_drew1 hb1
  clear hx0 hz0 hb0 hx1 hz1 hb1
  obtain ⟨wq, hwq⟩ : ∃ wq, ((w3.setCell ⟨w.heap.size + 1 + 1, 1, none⟩ (.int .i64 o1)).setCell ⟨w.heap.size + 1 + 1, 7, none⟩ (.slice A n c)).drew = wq := ⟨_, rfl⟩
  rw [hwq] at hx hz hb ⊢
  clear hwq
  clear HX HW1 HW2 HW3 HO HZ HB cX0 cO0 fO0 cX1 cO1 fO1 cX2 cO2 fO2 cX3 cO3 fO3 cX4 cO4 fO4 cX5 cO5 fO5 cX6 cO6 fO6 cX7 cO7 fO7 cX8 cO8 fO8
  have cQ0 : wq.cell? ⟨w.heap.size + 1 + 1, 0, none⟩ = some (.int .i64 10) := cell_of_row _ _ 0 _ _ _ hx
  have cQ1 : wq.cell? ⟨w.heap.size + 1 + 1, 1, none⟩ = some (.int .i64 o1) := cell_of_row _ _ 1 _ _ _ hx
  have cQ2 : wq.cell? ⟨w.heap.size + 1 + 1, 2, none⟩ = some (.int .i64 0) := cell_of_row _ _ 2 _ _ _ hx
  have cQ3 : wq.cell? ⟨w.heap.size + 1 + 1, 3, none⟩ = some (.int .i64 0) := cell_of_row _ _ 3 _ _ _ hx
  have cQ4 : wq.cell? ⟨w.heap.size + 1 + 1, 4, none⟩ = some (.int .i64 0) := cell_of_row _ _ 4 _ _ _ hx
  have cQ5 : wq.cell? ⟨w.heap.size + 1 + 1, 5, none⟩ = some (.int .i64 0) := cell_of_row _ _ 5 _ _ _ hx
  have cQ6 : wq.cell? ⟨w.heap.size + 1 + 1, 6, none⟩ = some (.string ⟨#[]⟩) := cell_of_row _ _ 6 _ _ _ hx
  have cQ7 : wq.cell? ⟨w.heap.size + 1 + 1, 7, none⟩ = some (.slice A n c) := cell_of_row _ _ 7 _ _ _ hx
  have cQ8 : wq.cell? ⟨w.heap.size + 1 + 1, 8, none⟩ = some (.string ⟨#[]⟩) := cell_of_row _ _ 8 _ _ _ hx
  have cZ0 : wq.cell? ⟨w.heap.size + 1, 0, none⟩ = some (.int .i64 0) := cell_of_row _ _ 0 _ _ _ hz
  have cZ1 : wq.cell? ⟨w.heap.size + 1, 1, none⟩ = some (.int .i64 0) := cell_of_row _ _ 1 _ _ _ hz
  have cZ2 : wq.cell? ⟨w.heap.size + 1, 2, none⟩ = some (.int .i64 0) := cell_of_row _ _ 2 _ _ _ hz
  have cZ3 : wq.cell? ⟨w.heap.size + 1, 3, none⟩ = some (.int .i64 0) := cell_of_row _ _ 3 _ _ _ hz
  have cZ4 : wq.cell? ⟨w.heap.size + 1, 4, none⟩ = some (.int .i64 0) := cell_of_row _ _ 4 _ _ _ hz
  have cZ5 : wq.cell? ⟨w.heap.size + 1, 5, none⟩ = some (.int .i64 0) := cell_of_row _ _ 5 _ _ _ hz
  have cZ6 : wq.cell? ⟨w.heap.size + 1, 6, none⟩ = some (.string ⟨#[]⟩) := cell_of_row _ _ 6 _ _ _ hz
  have cZ7 : wq.cell? ⟨w.heap.size + 1, 7, none⟩ = some (.slice none 0 0) := cell_of_row _ _ 7 _ _ _ hz
  have cZ8 : wq.cell? ⟨w.heap.size + 1, 8, none⟩ = some (.string ⟨#[]⟩) := cell_of_row _ _ 8 _ _ _ hz
  have fZ0 := blk_frozen hz 0
  have fZ1 := blk_frozen hz 1
  have fZ2 := blk_frozen hz 2
  have fZ3 := blk_frozen hz 3
  have fZ4 := blk_frozen hz 4
  have fZ5 := blk_frozen hz 5
  have fZ6 := blk_frozen hz 6
  have fZ7 := blk_frozen hz 7
  have fZ8 := blk_frozen hz 8
  have HZ := hide hz
  have HB := hide hb
  clear hx hz hb hne1 hne2 hzx hwle
  go_wp2_with fail
  exact ⟨rfl, _, res_op2 (set9_blk HZ.out (.int .i64 10) (.int .i64 o1) (.int .i64 0) (.int .i64 0) (.int .i64 0) (.int .i64 0) (.string ⟨#[]⟩) (.slice A n c) (.string ⟨#[]⟩)) 2 3 _ rfl rfl rfl, rfl, set9_below HB.out (by omega) (.int .i64 10) (.int .i64 o1) (.int .i64 0) (.int .i64 0) (.int .i64 0) (.int .i64 0) (.string ⟨#[]⟩) (.slice A n c) (.string ⟨#[]⟩)⟩

set_option maxHeartbeats 4000000 in
set_option maxRecDepth 100000 in
theorem asked11 (o1 o2 o3 o4 o5 : Int) (o6 : ByteArray) (A : Option Addr) (n c : Nat) (o8 : ByteArray) (w : World) :
    Calls Tryd.prog 24 #[.agg #[.int .i64 11, .int .i64 o1, .int .i64 o2, .int .i64 o3, .int .i64 o4, .int .i64 o5, .string o6, .slice A n c, .string o8]] w fun e w' => e = .returned (.tuple #[.agg #[.int .i64 11, .int .i64 0, .int .i64 0, .int .i64 0, .int .i64 0, .int .i64 0, .string ⟨#[]⟩, .slice none 0 0, .string ⟨#[]⟩], .bool true]) ∧ Below w.heap.size w w' := by
  have hX := heap_alloc_new w (.cells #[.int .i64 11, .int .i64 o1, .int .i64 o2, .int .i64 o3, .int .i64 o4, .int .i64 o5, .string o6, .slice A n c, .string o8] 24)
  have b1 := below_alloc (Below.refl w.heap.size w) (.cells #[.int .i64 11, .int .i64 o1, .int .i64 o2, .int .i64 o3, .int .i64 o4, .int .i64 o5, .string o6, .slice A n c, .string o8] 24)
  obtain ⟨w1, hw1⟩ : ∃ w1, w.alloc (.cells #[.int .i64 11, .int .i64 o1, .int .i64 o2, .int .i64 o3, .int .i64 o4, .int .i64 o5, .string o6, .slice A n c, .string o8] 24) = w1 := ⟨_, rfl⟩
  have hs1 : w1.heap.size = w.heap.size + 1 := by rw [← hw1]; simp
  rw [hw1] at hX b1
  have hZ := heap_alloc_new w1 (.cells #[.int .i64 0, .int .i64 0, .int .i64 0, .int .i64 0, .int .i64 0, .int .i64 0, .string ⟨#[]⟩, .slice none 0 0, .string ⟨#[]⟩] 24)
  have b2 := below_alloc (Below.refl w1.heap.size w1) (.cells #[.int .i64 0, .int .i64 0, .int .i64 0, .int .i64 0, .int .i64 0, .int .i64 0, .string ⟨#[]⟩, .slice none 0 0, .string ⟨#[]⟩] 24)
  obtain ⟨w2, hw2⟩ : ∃ w2, w1.alloc (.cells #[.int .i64 0, .int .i64 0, .int .i64 0, .int .i64 0, .int .i64 0, .int .i64 0, .string ⟨#[]⟩, .slice none 0 0, .string ⟨#[]⟩] 24) = w2 := ⟨_, rfl⟩
  have hs2 : w2.heap.size = w.heap.size + 1 + 1 := by rw [← hw2]; simp [hs1]
  rw [hw2] at hZ b2
  rw [hs1] at hZ
  have hX2 := (b2.block _ (blk_lt hX)).trans hX
  have hb2 := below_step b1 b2
  have hO := heap_alloc_new w2 (.cells #[.int .i64 11, .int .i64 0, .int .i64 0, .int .i64 0, .int .i64 0, .int .i64 0, .string ⟨#[]⟩, .slice none 0 0, .string ⟨#[]⟩] 24)
  have b3 := below_alloc (Below.refl w2.heap.size w2) (.cells #[.int .i64 11, .int .i64 0, .int .i64 0, .int .i64 0, .int .i64 0, .int .i64 0, .string ⟨#[]⟩, .slice none 0 0, .string ⟨#[]⟩] 24)
  obtain ⟨w3, hw3⟩ : ∃ w3, w2.alloc (.cells #[.int .i64 11, .int .i64 0, .int .i64 0, .int .i64 0, .int .i64 0, .int .i64 0, .string ⟨#[]⟩, .slice none 0 0, .string ⟨#[]⟩] 24) = w3 := ⟨_, rfl⟩
  rw [hw3] at hO b3
  rw [hs2] at hO
  have hX3 := (b3.block _ (blk_lt hX2)).trans hX2
  have hZ3 := (b3.block _ (blk_lt hZ)).trans hZ
  have HX := hide hX3
  have HZ := hide hZ3
  have HB := hide (below_step hb2 b3)
  have HO := hide hO
  have HW1 := hide hw1
  have HW2 := hide hw2
  have HW3 := hide hw3
  have cX0 : w3.cell? ⟨w.heap.size, 0, none⟩ = some (.int .i64 11) := cell_of_row _ _ 0 _ _ _ hX3
  have cX1 : w3.cell? ⟨w.heap.size, 1, none⟩ = some (.int .i64 o1) := cell_of_row _ _ 1 _ _ _ hX3
  have cX2 : w3.cell? ⟨w.heap.size, 2, none⟩ = some (.int .i64 o2) := cell_of_row _ _ 2 _ _ _ hX3
  have cX3 : w3.cell? ⟨w.heap.size, 3, none⟩ = some (.int .i64 o3) := cell_of_row _ _ 3 _ _ _ hX3
  have cX4 : w3.cell? ⟨w.heap.size, 4, none⟩ = some (.int .i64 o4) := cell_of_row _ _ 4 _ _ _ hX3
  have cX5 : w3.cell? ⟨w.heap.size, 5, none⟩ = some (.int .i64 o5) := cell_of_row _ _ 5 _ _ _ hX3
  have cX6 : w3.cell? ⟨w.heap.size, 6, none⟩ = some (.string o6) := cell_of_row _ _ 6 _ _ _ hX3
  have cX7 : w3.cell? ⟨w.heap.size, 7, none⟩ = some (.slice A n c) := cell_of_row _ _ 7 _ _ _ hX3
  have cX8 : w3.cell? ⟨w.heap.size, 8, none⟩ = some (.string o8) := cell_of_row _ _ 8 _ _ _ hX3
  have cO0 : w3.cell? ⟨w.heap.size + 1 + 1, 0, none⟩ = some (.int .i64 11) := cell_of_row _ _ 0 _ _ _ hO
  have cO1 : w3.cell? ⟨w.heap.size + 1 + 1, 1, none⟩ = some (.int .i64 0) := cell_of_row _ _ 1 _ _ _ hO
  have cO2 : w3.cell? ⟨w.heap.size + 1 + 1, 2, none⟩ = some (.int .i64 0) := cell_of_row _ _ 2 _ _ _ hO
  have cO3 : w3.cell? ⟨w.heap.size + 1 + 1, 3, none⟩ = some (.int .i64 0) := cell_of_row _ _ 3 _ _ _ hO
  have cO4 : w3.cell? ⟨w.heap.size + 1 + 1, 4, none⟩ = some (.int .i64 0) := cell_of_row _ _ 4 _ _ _ hO
  have cO5 : w3.cell? ⟨w.heap.size + 1 + 1, 5, none⟩ = some (.int .i64 0) := cell_of_row _ _ 5 _ _ _ hO
  have cO6 : w3.cell? ⟨w.heap.size + 1 + 1, 6, none⟩ = some (.string ⟨#[]⟩) := cell_of_row _ _ 6 _ _ _ hO
  have cO7 : w3.cell? ⟨w.heap.size + 1 + 1, 7, none⟩ = some (.slice none 0 0) := cell_of_row _ _ 7 _ _ _ hO
  have cO8 : w3.cell? ⟨w.heap.size + 1 + 1, 8, none⟩ = some (.string ⟨#[]⟩) := cell_of_row _ _ 8 _ _ _ hO
  have fO0 := blk_frozen hO 0
  have fO1 := blk_frozen hO 1
  have fO2 := blk_frozen hO 2
  have fO3 := blk_frozen hO 3
  have fO4 := blk_frozen hO 4
  have fO5 := blk_frozen hO 5
  have fO6 := blk_frozen hO 6
  have fO7 := blk_frozen hO 7
  have fO8 := blk_frozen hO 8
  have hzx : w.heap.size + 1 ≠ w.heap.size + 1 + 1 := by omega
  have hwle : w.heap.size ≤ w.heap.size + 1 + 1 := by omega
  have hne1 : ¬ w.heap.size + 1 + 1 = w.heap.size := by omega
  have hne2 : ¬ w.heap.size = w.heap.size + 1 + 1 := by omega
  clear hX hX2 hX3 hZ hZ3 b1 b2 b3 hb2 hO hs1 hs2 hw1 hw2 hw3
  go_enter Tryd.func24, Tryd.ntmps24
  go_upto_region 24 with fail
  rw [HW1.out, HW2.out, HW3.out]
  have hx := HO.out
  have hz := HZ.out
  have hb := HB.out
  obtain ⟨wq, hwq⟩ : ∃ wq, w3 = wq := ⟨_, rfl⟩
  rw [hwq] at hx hz hb ⊢
  clear HX HW1 HW2 HW3 HO HZ HB cX0 cO0 fO0 cX1 cO1 fO1 cX2 cO2 fO2 cX3 cO3 fO3 cX4 cO4 fO4 cX5 cO5 fO5 cX6 cO6 fO6 cX7 cO7 fO7 cX8 cO8 fO8
  have cQ0 : wq.cell? ⟨w.heap.size + 1 + 1, 0, none⟩ = some (.int .i64 11) := cell_of_row _ _ 0 _ _ _ hx
  have cQ1 : wq.cell? ⟨w.heap.size + 1 + 1, 1, none⟩ = some (.int .i64 0) := cell_of_row _ _ 1 _ _ _ hx
  have cQ2 : wq.cell? ⟨w.heap.size + 1 + 1, 2, none⟩ = some (.int .i64 0) := cell_of_row _ _ 2 _ _ _ hx
  have cQ3 : wq.cell? ⟨w.heap.size + 1 + 1, 3, none⟩ = some (.int .i64 0) := cell_of_row _ _ 3 _ _ _ hx
  have cQ4 : wq.cell? ⟨w.heap.size + 1 + 1, 4, none⟩ = some (.int .i64 0) := cell_of_row _ _ 4 _ _ _ hx
  have cQ5 : wq.cell? ⟨w.heap.size + 1 + 1, 5, none⟩ = some (.int .i64 0) := cell_of_row _ _ 5 _ _ _ hx
  have cQ6 : wq.cell? ⟨w.heap.size + 1 + 1, 6, none⟩ = some (.string ⟨#[]⟩) := cell_of_row _ _ 6 _ _ _ hx
  have cQ7 : wq.cell? ⟨w.heap.size + 1 + 1, 7, none⟩ = some (.slice none 0 0) := cell_of_row _ _ 7 _ _ _ hx
  have cQ8 : wq.cell? ⟨w.heap.size + 1 + 1, 8, none⟩ = some (.string ⟨#[]⟩) := cell_of_row _ _ 8 _ _ _ hx
  have cZ0 : wq.cell? ⟨w.heap.size + 1, 0, none⟩ = some (.int .i64 0) := cell_of_row _ _ 0 _ _ _ hz
  have cZ1 : wq.cell? ⟨w.heap.size + 1, 1, none⟩ = some (.int .i64 0) := cell_of_row _ _ 1 _ _ _ hz
  have cZ2 : wq.cell? ⟨w.heap.size + 1, 2, none⟩ = some (.int .i64 0) := cell_of_row _ _ 2 _ _ _ hz
  have cZ3 : wq.cell? ⟨w.heap.size + 1, 3, none⟩ = some (.int .i64 0) := cell_of_row _ _ 3 _ _ _ hz
  have cZ4 : wq.cell? ⟨w.heap.size + 1, 4, none⟩ = some (.int .i64 0) := cell_of_row _ _ 4 _ _ _ hz
  have cZ5 : wq.cell? ⟨w.heap.size + 1, 5, none⟩ = some (.int .i64 0) := cell_of_row _ _ 5 _ _ _ hz
  have cZ6 : wq.cell? ⟨w.heap.size + 1, 6, none⟩ = some (.string ⟨#[]⟩) := cell_of_row _ _ 6 _ _ _ hz
  have cZ7 : wq.cell? ⟨w.heap.size + 1, 7, none⟩ = some (.slice none 0 0) := cell_of_row _ _ 7 _ _ _ hz
  have cZ8 : wq.cell? ⟨w.heap.size + 1, 8, none⟩ = some (.string ⟨#[]⟩) := cell_of_row _ _ 8 _ _ _ hz
  have fZ0 := blk_frozen hz 0
  have fZ1 := blk_frozen hz 1
  have fZ2 := blk_frozen hz 2
  have fZ3 := blk_frozen hz 3
  have fZ4 := blk_frozen hz 4
  have fZ5 := blk_frozen hz 5
  have fZ6 := blk_frozen hz 6
  have fZ7 := blk_frozen hz 7
  have fZ8 := blk_frozen hz 8
  have HZ := hide hz
  have HB := hide hb
  clear hx hz hb hne1 hne2 hzx hwle
  go_wp2_with fail
  exact ⟨rfl, _, res_op2 (set9_blk HZ.out (.int .i64 11) (.int .i64 0) (.int .i64 0) (.int .i64 0) (.int .i64 0) (.int .i64 0) (.string ⟨#[]⟩) (.slice none 0 0) (.string ⟨#[]⟩)) 2 3 _ rfl rfl rfl, rfl, set9_below HB.out (by omega) (.int .i64 11) (.int .i64 0) (.int .i64 0) (.int .i64 0) (.int .i64 0) (.int .i64 0) (.string ⟨#[]⟩) (.slice none 0 0) (.string ⟨#[]⟩)⟩

set_option maxHeartbeats 4000000 in
set_option maxRecDepth 100000 in
theorem asked0 (o0 : Int) (hk : kindB o0 = false) (o1 o2 o3 o4 o5 : Int) (o6 : ByteArray) (A : Option Addr) (n c : Nat) (o8 : ByteArray) (w : World) :
    Calls Tryd.prog 24 #[.agg #[.int .i64 o0, .int .i64 o1, .int .i64 o2, .int .i64 o3, .int .i64 o4, .int .i64 o5, .string o6, .slice A n c, .string o8]] w fun e w' => e = .returned (.tuple #[.agg #[.int .i64 o0, .int .i64 0, .int .i64 0, .int .i64 0, .int .i64 0, .int .i64 0, .string ⟨#[]⟩, .slice none 0 0, .string ⟨#[]⟩], .bool false]) ∧ Below w.heap.size w w' := by
  have hX := heap_alloc_new w (.cells #[.int .i64 o0, .int .i64 o1, .int .i64 o2, .int .i64 o3, .int .i64 o4, .int .i64 o5, .string o6, .slice A n c, .string o8] 24)
  have b1 := below_alloc (Below.refl w.heap.size w) (.cells #[.int .i64 o0, .int .i64 o1, .int .i64 o2, .int .i64 o3, .int .i64 o4, .int .i64 o5, .string o6, .slice A n c, .string o8] 24)
  obtain ⟨w1, hw1⟩ : ∃ w1, w.alloc (.cells #[.int .i64 o0, .int .i64 o1, .int .i64 o2, .int .i64 o3, .int .i64 o4, .int .i64 o5, .string o6, .slice A n c, .string o8] 24) = w1 := ⟨_, rfl⟩
  have hs1 : w1.heap.size = w.heap.size + 1 := by rw [← hw1]; simp
  rw [hw1] at hX b1
  have hZ := heap_alloc_new w1 (.cells #[.int .i64 0, .int .i64 0, .int .i64 0, .int .i64 0, .int .i64 0, .int .i64 0, .string ⟨#[]⟩, .slice none 0 0, .string ⟨#[]⟩] 24)
  have b2 := below_alloc (Below.refl w1.heap.size w1) (.cells #[.int .i64 0, .int .i64 0, .int .i64 0, .int .i64 0, .int .i64 0, .int .i64 0, .string ⟨#[]⟩, .slice none 0 0, .string ⟨#[]⟩] 24)
  obtain ⟨w2, hw2⟩ : ∃ w2, w1.alloc (.cells #[.int .i64 0, .int .i64 0, .int .i64 0, .int .i64 0, .int .i64 0, .int .i64 0, .string ⟨#[]⟩, .slice none 0 0, .string ⟨#[]⟩] 24) = w2 := ⟨_, rfl⟩
  have hs2 : w2.heap.size = w.heap.size + 1 + 1 := by rw [← hw2]; simp [hs1]
  rw [hw2] at hZ b2
  rw [hs1] at hZ
  have hX2 := (b2.block _ (blk_lt hX)).trans hX
  have hb2 := below_step b1 b2
  have hO := heap_alloc_new w2 (.cells #[.int .i64 o0, .int .i64 0, .int .i64 0, .int .i64 0, .int .i64 0, .int .i64 0, .string ⟨#[]⟩, .slice none 0 0, .string ⟨#[]⟩] 24)
  have b3 := below_alloc (Below.refl w2.heap.size w2) (.cells #[.int .i64 o0, .int .i64 0, .int .i64 0, .int .i64 0, .int .i64 0, .int .i64 0, .string ⟨#[]⟩, .slice none 0 0, .string ⟨#[]⟩] 24)
  obtain ⟨w3, hw3⟩ : ∃ w3, w2.alloc (.cells #[.int .i64 o0, .int .i64 0, .int .i64 0, .int .i64 0, .int .i64 0, .int .i64 0, .string ⟨#[]⟩, .slice none 0 0, .string ⟨#[]⟩] 24) = w3 := ⟨_, rfl⟩
  rw [hw3] at hO b3
  rw [hs2] at hO
  have hX3 := (b3.block _ (blk_lt hX2)).trans hX2
  have hZ3 := (b3.block _ (blk_lt hZ)).trans hZ
  have HX := hide hX3
  have HZ := hide hZ3
  have HB := hide (below_step hb2 b3)
  have HO := hide hO
  have HW1 := hide hw1
  have HW2 := hide hw2
  have HW3 := hide hw3
  have cX0 : w3.cell? ⟨w.heap.size, 0, none⟩ = some (.int .i64 o0) := cell_of_row _ _ 0 _ _ _ hX3
  have cX1 : w3.cell? ⟨w.heap.size, 1, none⟩ = some (.int .i64 o1) := cell_of_row _ _ 1 _ _ _ hX3
  have cX2 : w3.cell? ⟨w.heap.size, 2, none⟩ = some (.int .i64 o2) := cell_of_row _ _ 2 _ _ _ hX3
  have cX3 : w3.cell? ⟨w.heap.size, 3, none⟩ = some (.int .i64 o3) := cell_of_row _ _ 3 _ _ _ hX3
  have cX4 : w3.cell? ⟨w.heap.size, 4, none⟩ = some (.int .i64 o4) := cell_of_row _ _ 4 _ _ _ hX3
  have cX5 : w3.cell? ⟨w.heap.size, 5, none⟩ = some (.int .i64 o5) := cell_of_row _ _ 5 _ _ _ hX3
  have cX6 : w3.cell? ⟨w.heap.size, 6, none⟩ = some (.string o6) := cell_of_row _ _ 6 _ _ _ hX3
  have cX7 : w3.cell? ⟨w.heap.size, 7, none⟩ = some (.slice A n c) := cell_of_row _ _ 7 _ _ _ hX3
  have cX8 : w3.cell? ⟨w.heap.size, 8, none⟩ = some (.string o8) := cell_of_row _ _ 8 _ _ _ hX3
  have cO0 : w3.cell? ⟨w.heap.size + 1 + 1, 0, none⟩ = some (.int .i64 o0) := cell_of_row _ _ 0 _ _ _ hO
  have cO1 : w3.cell? ⟨w.heap.size + 1 + 1, 1, none⟩ = some (.int .i64 0) := cell_of_row _ _ 1 _ _ _ hO
  have cO2 : w3.cell? ⟨w.heap.size + 1 + 1, 2, none⟩ = some (.int .i64 0) := cell_of_row _ _ 2 _ _ _ hO
  have cO3 : w3.cell? ⟨w.heap.size + 1 + 1, 3, none⟩ = some (.int .i64 0) := cell_of_row _ _ 3 _ _ _ hO
  have cO4 : w3.cell? ⟨w.heap.size + 1 + 1, 4, none⟩ = some (.int .i64 0) := cell_of_row _ _ 4 _ _ _ hO
  have cO5 : w3.cell? ⟨w.heap.size + 1 + 1, 5, none⟩ = some (.int .i64 0) := cell_of_row _ _ 5 _ _ _ hO
  have cO6 : w3.cell? ⟨w.heap.size + 1 + 1, 6, none⟩ = some (.string ⟨#[]⟩) := cell_of_row _ _ 6 _ _ _ hO
  have cO7 : w3.cell? ⟨w.heap.size + 1 + 1, 7, none⟩ = some (.slice none 0 0) := cell_of_row _ _ 7 _ _ _ hO
  have cO8 : w3.cell? ⟨w.heap.size + 1 + 1, 8, none⟩ = some (.string ⟨#[]⟩) := cell_of_row _ _ 8 _ _ _ hO
  have fO0 := blk_frozen hO 0
  have fO1 := blk_frozen hO 1
  have fO2 := blk_frozen hO 2
  have fO3 := blk_frozen hO 3
  have fO4 := blk_frozen hO 4
  have fO5 := blk_frozen hO 5
  have fO6 := blk_frozen hO 6
  have fO7 := blk_frozen hO 7
  have fO8 := blk_frozen hO 8
  have hzx : w.heap.size + 1 ≠ w.heap.size + 1 + 1 := by omega
  have hwle : w.heap.size ≤ w.heap.size + 1 + 1 := by omega
  have hne1 : ¬ w.heap.size + 1 + 1 = w.heap.size := by omega
  have hne2 : ¬ w.heap.size = w.heap.size + 1 + 1 := by omega
  clear hX hX2 hX3 hZ hZ3 b1 b2 b3 hb2 hO hs1 hs2 hw1 hw2 hw3
  have hkk : ¬ (1 ≤ o0 ∧ o0 ≤ 11) := by intro h; unfold kindB at hk; simp at hk; omega
  have e1 : (o0 == 1) = false := beq_eq_false_iff_ne.2 (by omega)
  have e2 : (o0 == 2) = false := beq_eq_false_iff_ne.2 (by omega)
  have e3 : (o0 == 3) = false := beq_eq_false_iff_ne.2 (by omega)
  have e4 : (o0 == 4) = false := beq_eq_false_iff_ne.2 (by omega)
  have e5 : (o0 == 5) = false := beq_eq_false_iff_ne.2 (by omega)
  have e6 : (o0 == 6) = false := beq_eq_false_iff_ne.2 (by omega)
  have e7 : (o0 == 7) = false := beq_eq_false_iff_ne.2 (by omega)
  have e8 : (o0 == 8) = false := beq_eq_false_iff_ne.2 (by omega)
  have e9 : (o0 == 9) = false := beq_eq_false_iff_ne.2 (by omega)
  have e10 : (o0 == 10) = false := beq_eq_false_iff_ne.2 (by omega)
  have e11 : (o0 == 11) = false := beq_eq_false_iff_ne.2 (by omega)
  clear hk hkk
  go_enter Tryd.func24, Tryd.ntmps24
  go_upto_region 3 with fail
  rw [HW1.out, HW2.out, HW3.out]
  have hx := HO.out
  have hz := HZ.out
  have hb := HB.out
  obtain ⟨wq, hwq⟩ : ∃ wq, w3 = wq := ⟨_, rfl⟩
  rw [hwq] at hx hz hb ⊢
  clear HX HW1 HW2 HW3 HO HZ HB cX0 cO0 fO0 cX1 cO1 fO1 cX2 cO2 fO2 cX3 cO3 fO3 cX4 cO4 fO4 cX5 cO5 fO5 cX6 cO6 fO6 cX7 cO7 fO7 cX8 cO8 fO8
  have cQ0 : wq.cell? ⟨w.heap.size + 1 + 1, 0, none⟩ = some (.int .i64 o0) := cell_of_row _ _ 0 _ _ _ hx
  have cQ1 : wq.cell? ⟨w.heap.size + 1 + 1, 1, none⟩ = some (.int .i64 0) := cell_of_row _ _ 1 _ _ _ hx
  have cQ2 : wq.cell? ⟨w.heap.size + 1 + 1, 2, none⟩ = some (.int .i64 0) := cell_of_row _ _ 2 _ _ _ hx
  have cQ3 : wq.cell? ⟨w.heap.size + 1 + 1, 3, none⟩ = some (.int .i64 0) := cell_of_row _ _ 3 _ _ _ hx
  have cQ4 : wq.cell? ⟨w.heap.size + 1 + 1, 4, none⟩ = some (.int .i64 0) := cell_of_row _ _ 4 _ _ _ hx
  have cQ5 : wq.cell? ⟨w.heap.size + 1 + 1, 5, none⟩ = some (.int .i64 0) := cell_of_row _ _ 5 _ _ _ hx
  have cQ6 : wq.cell? ⟨w.heap.size + 1 + 1, 6, none⟩ = some (.string ⟨#[]⟩) := cell_of_row _ _ 6 _ _ _ hx
  have cQ7 : wq.cell? ⟨w.heap.size + 1 + 1, 7, none⟩ = some (.slice none 0 0) := cell_of_row _ _ 7 _ _ _ hx
  have cQ8 : wq.cell? ⟨w.heap.size + 1 + 1, 8, none⟩ = some (.string ⟨#[]⟩) := cell_of_row _ _ 8 _ _ _ hx
  have cZ0 : wq.cell? ⟨w.heap.size + 1, 0, none⟩ = some (.int .i64 0) := cell_of_row _ _ 0 _ _ _ hz
  have cZ1 : wq.cell? ⟨w.heap.size + 1, 1, none⟩ = some (.int .i64 0) := cell_of_row _ _ 1 _ _ _ hz
  have cZ2 : wq.cell? ⟨w.heap.size + 1, 2, none⟩ = some (.int .i64 0) := cell_of_row _ _ 2 _ _ _ hz
  have cZ3 : wq.cell? ⟨w.heap.size + 1, 3, none⟩ = some (.int .i64 0) := cell_of_row _ _ 3 _ _ _ hz
  have cZ4 : wq.cell? ⟨w.heap.size + 1, 4, none⟩ = some (.int .i64 0) := cell_of_row _ _ 4 _ _ _ hz
  have cZ5 : wq.cell? ⟨w.heap.size + 1, 5, none⟩ = some (.int .i64 0) := cell_of_row _ _ 5 _ _ _ hz
  have cZ6 : wq.cell? ⟨w.heap.size + 1, 6, none⟩ = some (.string ⟨#[]⟩) := cell_of_row _ _ 6 _ _ _ hz
  have cZ7 : wq.cell? ⟨w.heap.size + 1, 7, none⟩ = some (.slice none 0 0) := cell_of_row _ _ 7 _ _ _ hz
  have cZ8 : wq.cell? ⟨w.heap.size + 1, 8, none⟩ = some (.string ⟨#[]⟩) := cell_of_row _ _ 8 _ _ _ hz
  have fZ0 := blk_frozen hz 0
  have fZ1 := blk_frozen hz 1
  have fZ2 := blk_frozen hz 2
  have fZ3 := blk_frozen hz 3
  have fZ4 := blk_frozen hz 4
  have fZ5 := blk_frozen hz 5
  have fZ6 := blk_frozen hz 6
  have fZ7 := blk_frozen hz 7
  have fZ8 := blk_frozen hz 8
  have HZ := hide hz
  have HB := hide hb
  clear hx hz hb hne1 hne2 hzx hwle
  go_wp2_with fail
  exact ⟨rfl, _, res_op2 (set9_blk HZ.out (.int .i64 o0) (.int .i64 0) (.int .i64 0) (.int .i64 0) (.int .i64 0) (.int .i64 0) (.string ⟨#[]⟩) (.slice none 0 0) (.string ⟨#[]⟩)) 2 3 _ rfl rfl rfl, rfl, set9_below HB.out (by omega) (.int .i64 o0) (.int .i64 0) (.int .i64 0) (.int .i64 0) (.int .i64 0) (.int .i64 0) (.string ⟨#[]⟩) (.slice none 0 0) (.string ⟨#[]⟩)⟩

end Go.Proofs.YtbljbgjecnmeeaaDoor.OpP
