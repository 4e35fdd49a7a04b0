/- Ground for arbourlaw24.known: two nodes in a block. The walk of arbourlaw24.known: it is true. -/
import Derived.Test.YteglfgmgpbablaaDoorCmpGrowP
import Derived.Test.YteglfgmgpbablaaDoorCmpGrow
import Derived.Test.YteglfgmgpbablaaDoorCmpSame
namespace Go.Proofs.YteglfgmgpbablaaDoor.Cmp
open Go.RowKit Go.Proofs.YteglfgmgpbablaaDoor.PCompareTells Go.Proofs.YteglfgmgpbablaaDoorW.PrintWords Go.Proofs.YteglfgmgpbablaaDoorW.PrintLast
theorem two_nodes {w : World} {g : Nat} {ty : TypeId} {fr : Nat × Nat} {s1 s2 : ByteArray} {a b c d e f : Int} {p q : Bool} (h : w.heap[g]? = some (.cells #[.int .i64 a, .int .i64 b, .int .i64 c, .bool p, .string s1, .slice none 0 0, .int .i64 d, .int .i64 e, .int .i64 f, .bool q, .string s2, .slice none 0 0] ty fr)) : k45.C w (some ⟨g, 0, none⟩) 2 [⟨a, b, c, p, s1, []⟩, ⟨d, e, f, q, s2, []⟩] := by
  have hk : ∀ (n0 n1 n2 : Int) (b : Bool) (s : ByteArray), k45.K w ⟨n0, n1, n2, b, s, []⟩ [.int .i64 n0, .int .i64 n1, .int .i64 n2, .bool b, .string s, .slice none 0 0] := fun n0 n1 n2 b s => k45_mk w ⟨n0, n1, n2, b, s, []⟩ (Nat.le_refl 0) (Kd.C_nil _ _)
  refine ⟨rfl, by decide, fun _ => ⟨_, rfl, fun j x hj => ?_⟩⟩
  match j, hj with
  | 0, hj =>
    cases hj
    refine ⟨_, rfl, hk _ _ _ _ _, fun i u hu => ?_⟩
    rw [add0, cell_of_row w g _ _ _ _ h]
    match i, hu with
    | 0, hu => rw [← hu]; rfl
    | 1, hu => rw [← hu]; rfl
    | 2, hu => rw [← hu]; rfl
    | 3, hu => rw [← hu]; rfl
    | 4, hu => rw [← hu]; rfl
    | 5, hu => rw [← hu]; rfl
  | 1, hj =>
    cases hj
    refine ⟨_, rfl, hk _ _ _ _ _, fun i u hu => ?_⟩
    rw [add0, cell_of_row w g _ _ _ _ h]
    match i, hu with
    | 0, hu => rw [← hu]; rfl
    | 1, hu => rw [← hu]; rfl
    | 2, hu => rw [← hu]; rfl
    | 3, hu => rw [← hu]; rfl
    | 4, hu => rw [← hu]; rfl
    | 5, hu => rw [← hu]; rfl
end Go.Proofs.YteglfgmgpbablaaDoor.Cmp
namespace Go.Proofs.YteglfgmgpbablaaDoor.Cmp
open Go.RowKit Go.Proofs.YteglfgmgpbablaaDoor.PCompareTells Go.Proofs.YteglfgmgpbablaaDoorW.PrintWords Go.Proofs.YteglfgmgpbablaaDoorW.PrintLast
theorem diffTV (N : Nat) (a b : S26) (va vb : Value) (w : World) (ha' : TV w va a) (hb' : TV w vb b) (hN : N ≤ 1000000000) (ha : AL N a) (hb : AL N b) (hM : W a + W b ≤ 100000000) :
    Calls Tryd.prog 14 #[va, vb] w fun e w' => ∃ v, e = .returned (.tuple #[v, .bool (resD (dif a b)).2]) ∧ Kd.R (Kd.int .i64) 3 w' w.heap.size (fun _ => True) v (resD (dif a b)).1 ∧ Below w.heap.size w w' := by
  obtain ⟨A3, c3, A5, c5, rfl, l3, g3, l5, g5⟩ := ha'
  obtain ⟨B3, d3, B5, d5, rfl, m3, j3, m5, j5⟩ := hb'
  exact diff N a b A3 c3 A5 c5 B3 d3 B5 d5 w l3 g3 l5 g5 m3 j3 m5 j5 hN ha hb hM
theorem sameTV (N : Nat) (a b : S26) (va vb : Value) (w : World) (ha' : TV w va a) (hb' : TV w vb b) (hN : N ≤ 1000000) (ha : AL N a) (hb : AL N b) (hM : W a + W b ≤ 100000000) :
    Calls Tryd.prog 9 #[va, vb] w fun e w' => e = .returned (.bool true) ∧ Below w.heap.size w w' := by
  obtain ⟨A3, c3, A5, c5, rfl, l3, g3, l5, g5⟩ := ha'
  obtain ⟨B3, d3, B5, d5, rfl, m3, j3, m5, j5⟩ := hb'
  exact same24 N a b A3 c3 A5 c5 B3 d3 B5 d5 w l3 g3 l5 g5 m3 j3 m5 j5 hN ha hb hM
theorem sliceR {w : World} {base : Nat} {v : Value} {l : List Nat} (h : Kd.R (Kd.int .i64) 3 w base (fun _ => True) v (l.map Int.ofNat)) : ∃ (A : Option Addr) (c : Nat), v = .slice A l.length c ∧ l.length ≤ c ∧ kI.C w A l.length (l.map Int.ofNat) := by
  obtain ⟨A, c, rfl, hc, hC⟩ := Kd.R_reads h
  rw [List.length_map] at hc hC ⊢
  exact ⟨A, c, rfl, hc, hC⟩
theorem lit2_int {w : World} {g : Nat} {ty : TypeId} {fr : Nat × Nat} {a b : Int} (h : w.heap[g]? = some (.cells #[.int .i64 a, .int .i64 b] ty fr)) : kI.C w (some ⟨g, 0, none⟩) 2 [a, b] := by
  refine ⟨rfl, by decide, fun _ => ⟨_, rfl, fun j p hj => ?_⟩⟩
  match j, hj with
  | 0, hj =>
    cases hj
    refine ⟨[.int .i64 a], rfl, rfl, fun i u hu => ?_⟩
    rw [add0, cell_of_row w g _ _ _ _ h]
    match i, hu with
    | 0, hu => rw [← hu]; rfl
  | 1, hj =>
    cases hj
    refine ⟨[.int .i64 b], rfl, rfl, fun i u hu => ?_⟩
    rw [add0, cell_of_row w g _ _ _ _ h]
    match i, hu with
    | 0, hu => rw [← hu]; rfl
theorem knownA (w : World) : Calls Tryd.prog 8 #[.slice (some ⟨w.heap.size, 0, none⟩) 2 2] (w.alloc (.cells #[.int .i64 3, .int .i64 0, .int .i64 0, .bool false, .string ⟨#[]⟩, .slice none 0 0, .int .i64 1, .int .i64 0, .int .i64 0, .bool false, .string ⟨#[97]⟩, .slice none 0 0] 45)) fun e w' => ∃ v, e = .returned v ∧ TV w' v (knownT 97) ∧ Below w.heap.size w w' :=
  (grow _ _ 2 _ (two_nodes (heap_alloc_new w _)) (Nat.le_refl 2)).mono fun e w' ⟨v, he, ht, hb⟩ => ⟨v, he, by have := ht.now; rwa [known_a] at this, below_step (below_alloc (Below.refl w.heap.size w) _) hb⟩
theorem knownB (w : World) : Calls Tryd.prog 8 #[.slice (some ⟨w.heap.size, 0, none⟩) 2 2] (w.alloc (.cells #[.int .i64 3, .int .i64 0, .int .i64 0, .bool false, .string ⟨#[]⟩, .slice none 0 0, .int .i64 1, .int .i64 0, .int .i64 0, .bool false, .string ⟨#[98]⟩, .slice none 0 0] 45)) fun e w' => ∃ v, e = .returned v ∧ TV w' v (knownT 98) ∧ Below w.heap.size w w' :=
  (grow _ _ 2 _ (two_nodes (heap_alloc_new w _)) (Nat.le_refl 2)).mono fun e w' ⟨v, he, ht, hb⟩ => ⟨v, he, by have := ht.now; rwa [known_b] at this, below_step (below_alloc (Below.refl w.heap.size w) _) hb⟩
set_option maxHeartbeats 20000000 in
set_option maxRecDepth 100000 in
theorem known (w : World) : Calls Tryd.prog 10 #[] w fun e w' => e = .returned (.bool true) ∧ Below w.heap.size w w' := by
  obtain ⟨⟨y0, y1, y2, y3, y4, y5⟩, hy⟩ : ∃ y, knownT 97 = y := ⟨_, rfl⟩
  obtain ⟨⟨z0, z1, z2, z3, z4, z5⟩, hz⟩ : ∃ z, knownT 98 = z := ⟨_, rfl⟩
  have HA := hide (fun w => knownA w)
  have HBk := hide (fun w => knownB w)
  have HDab := hide known_ab
  have HDaa := hide known_aa
  have hal : AL 6 (knownT 97) ∧ AL 6 (knownT 98) ∧ W (knownT 97) ≤ 9 ∧ W (knownT 98) ≤ 9 := ⟨by simp [knownT, AL, ALK], by simp [knownT, AL, ALK], by simp [knownT, W, WK], by simp [knownT, W, WK]⟩
  rw [hy, hz] at hal
  rw [hy] at HA HDab HDaa
  rw [hz] at HBk HDab
  have HAL := hide hal
  clear hy hz hal
  go_enter Tryd.func10, Tryd.ntmps10
  go_wp2_with fail
  (with_reducible refine (HA.out w).mono ?_)
  rintro e wa ⟨va, rfl, ⟨A3, c3, A5, c5, rfl, l3, g3, l5, g5⟩, hBa⟩
  dsimp only
  go_upto_region 2 with fail
  have b1 := below_alloc (Below.refl wa.heap.size wa) (.cells #[.int .i64 y0, .int .i64 y1, .string y2, .slice A3 y3.length c3, .string y4, .slice A5 y5.length c5] 26)
  have hs1 : (wa.alloc (.cells #[.int .i64 y0, .int .i64 y1, .string y2, .slice A3 y3.length c3, .string y4, .slice A5 y5.length c5] 26)).heap.size = wa.heap.size + 1 := by simp
  have hX1 := heap_alloc_new wa (.cells #[.int .i64 y0, .int .i64 y1, .string y2, .slice A3 y3.length c3, .string y4, .slice A5 y5.length c5] 26)
  have HB1 := hide (below_step hBa b1)
  have HG3 := hide (Kd.C_below g3 b1)
  have HG5 := hide (Kd.C_below g5 b1)
  have HL := hide (And.intro l3 l5)
  obtain ⟨w1, hw1⟩ : ∃ w1, wa.alloc (.cells #[.int .i64 y0, .int .i64 y1, .string y2, .slice A3 y3.length c3, .string y4, .slice A5 y5.length c5] 26) = w1 := ⟨_, rfl⟩
  rw [hw1] at hs1 hX1 HB1 HG3 HG5 ⊢
  have HX1 := hide hX1
  clear hBa g3 g5 l3 l5 b1 hs1 hX1
  generalize wa.heap.size = X1 at HX1 ⊢
  clear hw1
  go_wp2_with fail
  (with_reducible refine (HBk.out w1).mono ?_)
  rintro e wb ⟨vb, rfl, ⟨B3, d3, B5, d5, rfl, m3, j3, m5, j5⟩, hBb⟩
  dsimp only
  go_upto_region 3 with fail
  have hb2_ := below_alloc (Below.refl wb.heap.size wb) (.cells #[.int .i64 z0, .int .i64 z1, .string z2, .slice B3 z3.length d3, .string z4, .slice B5 z5.length d5] 26)
  have hX2 := heap_alloc_new wb (.cells #[.int .i64 z0, .int .i64 z1, .string z2, .slice B3 z3.length d3, .string z4, .slice B5 z5.length d5] 26)
  have hb12 := below_step hBb hb2_
  have HB2 := hide (below_step HB1.out hb12)
  have hX1 := (hb12.block _ (blk_lt HX1.out)).trans HX1.out
  have HJ3 := hide (Kd.C_below j3 hb2_)
  have HJ5 := hide (Kd.C_below j5 hb2_)
  have HM := hide (And.intro m3 m5)
  have HK3 := hide (Kd.C_below HG3.out hb12)
  have HK5 := hide (Kd.C_below HG5.out hb12)
  obtain ⟨w2, hw2⟩ : ∃ w2, wb.alloc (.cells #[.int .i64 z0, .int .i64 z1, .string z2, .slice B3 z3.length d3, .string z4, .slice B5 z5.length d5] 26) = w2 := ⟨_, rfl⟩
  rw [hw2] at hX1 hX2 hb12 HB2 HJ3 HJ5 HK3 HK5 ⊢
  have HY1 := hide hX1
  have HY2 := hide hX2
  have a0 := cell_of_row _ _ 0 _ _ _ hX1
  have a1 := cell_of_row _ _ 1 _ _ _ hX1
  have a2 := cell_of_row _ _ 2 _ _ _ hX1
  have a3 := cell_of_row _ _ 3 _ _ _ hX1
  have a4 := cell_of_row _ _ 4 _ _ _ hX1
  have a5 := cell_of_row _ _ 5 _ _ _ hX1
  have b0 := cell_of_row _ _ 0 _ _ _ hX2
  have b1 := cell_of_row _ _ 1 _ _ _ hX2
  have b2 := cell_of_row _ _ 2 _ _ _ hX2
  have b3 := cell_of_row _ _ 3 _ _ _ hX2
  have b4 := cell_of_row _ _ 4 _ _ _ hX2
  have b5 := cell_of_row _ _ 5 _ _ _ hX2
  clear hb12 hb2_ hX1 hX2 j3 j5 m3 m5 hBb HG3 HG5 HX1 hw2 HB1
  generalize wb.heap.size = X2 at *
  have hd := hide (fun (W : World) (hW : Below w2.heap.size w2 W) => diffTV 6 ⟨y0, y1, y2, y3, y4, y5⟩ ⟨z0, z1, z2, z3, z4, z5⟩ _ _ W ⟨A3, c3, A5, c5, rfl, HL.out.1, Kd.C_below HK3.out hW, HL.out.2, Kd.C_below HK5.out hW⟩ ⟨B3, d3, B5, d5, rfl, HM.out.1, Kd.C_below HJ3.out hW, HM.out.2, Kd.C_below HJ5.out hW⟩ (by omega) HAL.out.1 HAL.out.2.1 (by have h1 := HAL.out.2.2.1; have h2 := HAL.out.2.2.2; omega))
  have hd2 := hide (fun (W : World) (hW : Below w2.heap.size w2 W) => diffTV 6 ⟨y0, y1, y2, y3, y4, y5⟩ ⟨y0, y1, y2, y3, y4, y5⟩ _ _ W ⟨A3, c3, A5, c5, rfl, HL.out.1, Kd.C_below HK3.out hW, HL.out.2, Kd.C_below HK5.out hW⟩ ⟨A3, c3, A5, c5, rfl, HL.out.1, Kd.C_below HK3.out hW, HL.out.2, Kd.C_below HK5.out hW⟩ (by omega) HAL.out.1 HAL.out.1 (by have h1 := HAL.out.2.2.1; omega))
  rw [HDab.out] at hd
  rw [HDaa.out] at hd2
  go_wp2_with fail
  (with_reducible refine (hd.out w2 (Below.refl _ _)).mono ?_)
  rintro e w3 ⟨v1, rfl, hR1, hB3⟩
  dsimp only [resD]
  have c0 := cellW a0 hB3
  have c1 := cellW a1 hB3
  have c2 := cellW a2 hB3
  have c3_ := cellW a3 hB3
  have c4 := cellW a4 hB3
  have c5_ := cellW a5 hB3
  have HB3 := hide hB3
  have HR1 := hide hR1
  clear hB3 hR1 a0 a1 a2 a3 a4 a5 b0 b1 b2 b3 b4 b5
  go_wp2_with fail
  (with_reducible refine (hd2.out w3 HB3.out).mono ?_)
  rintro e w4 ⟨v2, rfl, hR2, hB4⟩
  dsimp only [resD]
  have HB4 := hide hB4
  have HR2 := hide hR2
  clear hB4 hR2
  obtain ⟨A1, k1, rfl, hk1, hC1⟩ : ∃ (A : Option Addr) (c : Nat), v1 = .slice A 2 c ∧ 2 ≤ c ∧ kI.C w3 A 2 [0, 0] := sliceR (l := [0, 0]) HR1.out
  have hB24 := below_step HB2.out (below_step HB3.out HB4.out)
  have HC1 := hide (Kd.C_below hC1 HB4.out)
  have HB24 := hide hB24
  clear hC1 hB24 HR1 HR2 c0 c1 c2 c3_ c4 c5_ HY1 HY2 hd hd2 HA HBk
  go_wp2_with fail
  refine (arbourbook_Same_int.calls 3 A1 k1 [0, 0] (some ⟨w4.heap.size, 0, none⟩) 2 [0, 0] true _ (Kd.C_alloc HC1.out _) hk1 (lit2_int (heap_alloc_new w4 _)) (Nat.le_refl 2) (sameInts [0, 0] (by simp))).mono ?_
  rintro e w' ⟨rfl, ⟨n1, rfl⟩⟩
  dsimp only
  have ba := below_step HB24.out (below_alloc (Below.refl w4.heap.size w4) (.cells #[.int .i64 0, .int .i64 0] 3))
  have HB5 := hide (pw_below_drewN ba n1)
  generalize ((w4.alloc (.cells #[.int .i64 0, .int .i64 0] 3)).drewN n1) = w5 at HB5 ⊢
  clear ba
  have HT := hide (show ∀ W : World, Calls Tryd.prog 17 #[.slice (some ⟨W.heap.size, 0, none⟩) 2 2] (W.alloc (.cells #[.int .i64 1, .int .i64 12] 3)) fun e w' => e = .returned (.string ⟨#[47, 49, 47, 49, 50]⟩) ∧ Below W.heap.size W w' from fun W => (text (some ⟨W.heap.size, 0, none⟩) 2 [1, 12] (W.alloc (.cells #[.int .i64 1, .int .i64 12] 3)) (lit2_int (heap_alloc_new W _)) (by decide) (by decide)).mono fun e w' ⟨he, hb⟩ => ⟨by rw [he, known_txt]; rfl, below_step (below_alloc (Below.refl W.heap.size W) _) hb⟩)
  have HT0 := hide (show ∀ W : World, Calls Tryd.prog 17 #[.slice none 0 0] W fun e w' => e = .returned (.string ⟨#[47]⟩) ∧ Below W.heap.size W w' from fun W => (text none 0 [] W (Kd.C_nil _ _) (by simp) (by simp)).mono fun e w' ⟨he, hb⟩ => ⟨by rw [he]; rfl, hb⟩)
  go_wp2_with fail
  (with_reducible refine (HT.out w5).mono ?_)
  rintro e w6 ⟨rfl, hB6⟩
  dsimp only
  have HB6 := hide (below_step HB5.out hB6)
  clear hB6
  go_wp2_with fail
  (with_reducible refine (HT0.out w6).mono ?_)
  rintro e w7 ⟨rfl, hB7⟩
  dsimp only
  have HB7 := hide (below_step HB6.out hB7)
  clear hB7
  go_wp2_with fail
  go_ret
  exact ⟨rfl, HB7.out⟩
end Go.Proofs.YteglfgmgpbablaaDoor.Cmp
