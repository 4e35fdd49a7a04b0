/- The walk of arbourlaw24.CompareTells: it is true. -/
import Derived.Test.YteglfgmgpbablaaDoorCmpKnownW
namespace Go.Proofs.YteglfgmgpbablaaDoor.Cmp
open Go.RowKit Go.Proofs.YteglfgmgpbablaaDoor.PCompareTells Go.Proofs.YteglfgmgpbablaaDoorW.PrintWords Go.Proofs.YteglfgmgpbablaaDoorW.PrintLast
theorem growL_ok (l : List S45) : AL 6 (growL l) ∧ W (growL l) ≤ 101 := by
  obtain ⟨n, h1, h2, h3⟩ : ∃ n, n ≤ l.length ∧ n ≤ 25 ∧ ¬ (n < l.length ∧ n < 25) := by
    by_cases h : l.length ≤ 25
    · exact ⟨l.length, Nat.le_refl _, h, by omega⟩
    · exact ⟨25, by omega, Nat.le_refl _, by omega⟩
  have g := growN_grown l n h1
  rw [growL_N l n h1 h2 h3]
  exact ⟨g.attrs, by have := g.weight; omega⟩
set_option maxHeartbeats 20000000 in
set_option maxRecDepth 100000 in
theorem tells (A : Option Addr) (ca : Nat) (l : List S45) (B : Option Addr) (cb : Nat) (m : List S45) (w : World) (hC : k45.C w A l.length l ∧ l.length ≤ ca) (hD : k45.C w B m.length m ∧ m.length ≤ cb) :
    Calls Tryd.prog 3 #[.slice A l.length ca, .slice B m.length cb] w fun e w' => e = .returned (.bool true) ∧ Below w.heap.size w w' := by
  obtain ⟨⟨y0, y1, y2, y3, y4, y5⟩, hy⟩ : ∃ y, growL l = y := ⟨_, rfl⟩
  obtain ⟨⟨z0, z1, z2, z3, z4, z5⟩, hz⟩ : ∃ z, growL m = z := ⟨_, rfl⟩
  have hal := growL_ok l
  have hbl := growL_ok m
  have HG := hide (grow l A ca w hC.1 hC.2)
  have HM := hide (fun (W : World) (hW : Below w.heap.size w W) => grow m B cb W (Kd.C_below hD.1 hW) hD.2)
  rw [hy] at hal HG
  rw [hz] at hbl HM
  have HA := hide hal
  have HBl := hide hbl
  clear hy hz hal hbl hC hD
  go_enter Tryd.func3, Tryd.ntmps3
  go_wp2_with fail
  (with_reducible refine HG.out.mono ?_)
  rintro e wa ⟨va, rfl, hT, hBa⟩
  obtain ⟨A3, c3, A5, c5, rfl, l3, g3, l5, g5⟩ := hT.now
  dsimp only
  have HBa := hide hBa
  have HG3 := hide g3
  have HG5 := hide g5
  have HL := hide (And.intro l3 l5)
  clear hT hBa g3 g5 l3 l5
  go_wp2_with fail
  (with_reducible refine (HM.out wa HBa.out).mono ?_)
  rintro e wb ⟨vb, rfl, hT, hBb⟩
  obtain ⟨B3, d3, B5, d5, rfl, m3, j3, m5, j5⟩ := hT.now
  dsimp only
  go_upto_region 2 with fail
  have q1 := below_alloc (Below.refl wb.heap.size wb) (.cells #[.int .i64 y0, .int .i64 y1, .string y2, .slice A3 y3.length c3, .string y4, .slice A5 y5.length c5] 26)
  have q2 := below_alloc q1 (.cells #[.int .i64 z0, .int .i64 z1, .string z2, .slice B3 z3.length d3, .string z4, .slice B5 z5.length d5] 26)
  have hX1 := (below_alloc (Below.refl _ (wb.alloc (.cells #[.int .i64 y0, .int .i64 y1, .string y2, .slice A3 y3.length c3, .string y4, .slice A5 y5.length c5] 26))) (.cells #[.int .i64 z0, .int .i64 z1, .string z2, .slice B3 z3.length d3, .string z4, .slice B5 z5.length d5] 26)).block wb.heap.size (by simp)
  have hX1' := hX1.trans (heap_alloc_new wb (.cells #[.int .i64 y0, .int .i64 y1, .string y2, .slice A3 y3.length c3, .string y4, .slice A5 y5.length c5] 26))
  have hX2 := heap_alloc_new (wb.alloc (.cells #[.int .i64 y0, .int .i64 y1, .string y2, .slice A3 y3.length c3, .string y4, .slice A5 y5.length c5] 26)) (.cells #[.int .i64 z0, .int .i64 z1, .string z2, .slice B3 z3.length d3, .string z4, .slice B5 z5.length d5] 26)
  rw [show (wb.alloc (.cells #[.int .i64 y0, .int .i64 y1, .string y2, .slice A3 y3.length c3, .string y4, .slice A5 y5.length c5] 26)).heap.size = wb.heap.size + 1 from by simp] at hX2
  have hbb := below_step hBb q2
  have HB2 := hide (below_step HBa.out hbb)
  have HK3 := hide (Kd.C_below HG3.out hbb)
  have HK5 := hide (Kd.C_below HG5.out hbb)
  have HJ3 := hide (Kd.C_below j3 q2)
  have HJ5 := hide (Kd.C_below j5 q2)
  have HM2 := hide (And.intro m3 m5)
  obtain ⟨w2, hw2⟩ : ∃ w2, (wb.alloc (.cells #[.int .i64 y0, .int .i64 y1, .string y2, .slice A3 y3.length c3, .string y4, .slice A5 y5.length c5] 26)).alloc (.cells #[.int .i64 z0, .int .i64 z1, .string z2, .slice B3 z3.length d3, .string z4, .slice B5 z5.length d5] 26) = w2 := ⟨_, rfl⟩
  rw [hw2] at hX1' hX2 HB2 HK3 HK5 HJ3 HJ5 ⊢
  clear hX1 hbb q1 q2 hw2 j3 j5 m3 m5 hBb hT HG3 HG5 HBa
  have hs := hide (fun (W : World) (hW : Below w2.heap.size w2 W) => sameTV 6 ⟨y0, y1, y2, y3, y4, y5⟩ ⟨z0, z1, z2, z3, z4, z5⟩ _ _ W ⟨A3, c3, A5, c5, rfl, HL.out.1, Kd.C_below HK3.out hW, HL.out.2, Kd.C_below HK5.out hW⟩ ⟨B3, d3, B5, d5, rfl, HM2.out.1, Kd.C_below HJ3.out hW, HM2.out.2, Kd.C_below HJ5.out hW⟩ (by omega) HA.out.1 HBl.out.1 (by have h1 := HA.out.2; have h2 := HBl.out.2; omega))
  have hs2 := hide (fun (W : World) (hW : Below w2.heap.size w2 W) => sameTV 6 ⟨z0, z1, z2, z3, z4, z5⟩ ⟨y0, y1, y2, y3, y4, y5⟩ _ _ W ⟨B3, d3, B5, d5, rfl, HM2.out.1, Kd.C_below HJ3.out hW, HM2.out.2, Kd.C_below HJ5.out hW⟩ ⟨A3, c3, A5, c5, rfl, HL.out.1, Kd.C_below HK3.out hW, HL.out.2, Kd.C_below HK5.out hW⟩ (by omega) HBl.out.1 HA.out.1 (by have h1 := HA.out.2; have h2 := HBl.out.2; omega))
  have a0 := cell_of_row _ _ 0 _ _ _ hX1'
  have b0_ := cell_of_row _ _ 0 _ _ _ hX2
  have a1 := cell_of_row _ _ 1 _ _ _ hX1'
  have b1_ := cell_of_row _ _ 1 _ _ _ hX2
  have a2 := cell_of_row _ _ 2 _ _ _ hX1'
  have b2_ := cell_of_row _ _ 2 _ _ _ hX2
  have a3 := cell_of_row _ _ 3 _ _ _ hX1'
  have b3_ := cell_of_row _ _ 3 _ _ _ hX2
  have a4 := cell_of_row _ _ 4 _ _ _ hX1'
  have b4_ := cell_of_row _ _ 4 _ _ _ hX2
  have a5 := cell_of_row _ _ 5 _ _ _ hX1'
  have b5_ := cell_of_row _ _ 5 _ _ _ hX2
  have HX1 := hide hX1'
  have HX2 := hide hX2
  clear hX1' hX2
  generalize wb.heap.size = X1 at *
  go_wp2_with fail
  (with_reducible refine (hs.out w2 (Below.refl _ _)).mono ?_)
  rintro e w3 ⟨rfl, hB3⟩
  dsimp only
  have e0 := cellW a0 hB3
  have f0 := cellW b0_ hB3
  have e1 := cellW a1 hB3
  have f1 := cellW b1_ hB3
  have e2 := cellW a2 hB3
  have f2 := cellW b2_ hB3
  have e3 := cellW a3 hB3
  have f3 := cellW b3_ hB3
  have e4 := cellW a4 hB3
  have f4 := cellW b4_ hB3
  have e5 := cellW a5 hB3
  have f5 := cellW b5_ hB3
  clear a0 a1 a2 a3 a4 a5 b0_ b1_ b2_ b3_ b4_ b5_
  have HB3 := hide hB3
  clear hB3
  go_wp2_with fail
  (with_reducible refine (hs2.out w3 HB3.out).mono ?_)
  rintro e w4 ⟨rfl, hB4⟩
  dsimp only
  have HB4 := hide (below_step HB3.out hB4)
  clear hB4 hs hs2
  go_wp2_with fail
  (with_reducible refine (known w4).mono ?_)
  rintro e w5 ⟨rfl, hB5⟩
  dsimp only
  have HB5 := hide (below_step (below_step HB2.out HB4.out) hB5)
  clear hB5
  go_wp2_with fail
  go_ret
  exact ⟨rfl, HB5.out⟩
end Go.Proofs.YteglfgmgpbablaaDoor.Cmp
