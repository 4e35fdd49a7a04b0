/- The walk of the law TreeNumbers: it is true. -/
import Derived.Test.YtaponaemgolmoaaTrSame14
import Derived.Test.YtaponaemgolmoaaTrKnown
import Derived.Deep.DeepCutAuto
import Derived.Deep.CutBlock
namespace Go.Proofs.Ytaponaemgolmoaa.Tr
open Go.RowKit Go.Proofs.Ytaponaemgolmoaa.PTreeTells Go.Proofs.YtaponaemgolmoaaW.PrintWords Go.Proofs.YtaponaemgolmoaaW.PrintLast
set_option linter.unusedVariables false
set_option linter.unusedSimpArgs false
/-- Two nodes in a block. -/
theorem two_rows {w : World} {g : Nat} {ty : TypeId} {fr : Nat × Nat} {y z : S26} {A3 A5 B3 B5 : Option Addr} {c3 c5 d3 d5 : Nat} (h : w.heap[g]? = some (.cells #[.int .i64 y.f0, .int .i64 y.f1, .string y.f2, .slice A3 y.f3.length c3, .string y.f4, .slice A5 y.f5.length c5, .int .i64 z.f0, .int .i64 z.f1, .string z.f2, .slice B3 z.f3.length d3, .string z.f4, .slice B5 z.f5.length d5] ty fr)) (l3 : y.f3.length ≤ c3) (g3 : k33.C w A3 y.f3.length y.f3) (l5 : y.f5.length ≤ c5) (g5 : k26.C w A5 y.f5.length y.f5) (m3 : z.f3.length ≤ d3) (j3 : k33.C w B3 z.f3.length z.f3) (m5 : z.f5.length ≤ d5) (j5 : k26.C w B5 z.f5.length z.f5) : k26.C w (some ⟨g, 0, none⟩) 2 [y, z] := by
  refine ⟨rfl, by decide, fun _ => ⟨_, rfl, fun j x hj => ?_⟩⟩
  match j, hj with
  | 0, hj =>
    cases hj
    refine ⟨_, rfl, k26_mk w y l3 g3 l5 g5, fun i u hu => ?_⟩
    rw [show k26.sz = 6 from rfl, add0, cell_of_row w g _ _ _ _ h]
    match i, hu with
    | 0, hu => rw [← hu]; rfl
    | 1, hu => rw [← hu]; rfl
    | 2, hu => rw [← hu]; rfl
    | 3, hu => rw [← hu]; rfl
    | 4, hu => rw [← hu]; rfl
    | 5, hu => rw [← hu]; rfl
  | 1, hj =>
    cases hj
    refine ⟨_, rfl, k26_mk w z m3 j3 m5 j5, fun i u hu => ?_⟩
    rw [show k26.sz = 6 from rfl, add0, cell_of_row w g _ _ _ _ h]
    match i, hu with
    | 0, hu => rw [← hu]; rfl
    | 1, hu => rw [← hu]; rfl
    | 2, hu => rw [← hu]; rfl
    | 3, hu => rw [← hu]; rfl
    | 4, hu => rw [← hu]; rfl
    | 5, hu => rw [← hu]; rfl
theorem two_attrs {w : World} {g : Nat} {ty : TypeId} {fr : Nat × Nat} {p q r s : ByteArray} (h : w.heap[g]? = some (.cells #[.string p, .string q, .string r, .string s] ty fr)) : k33.C w (some ⟨g, 0, none⟩) 2 [⟨p, q⟩, ⟨r, s⟩] := by
  refine ⟨rfl, by decide, fun _ => ⟨_, rfl, fun j x hj => ?_⟩⟩
  match j, hj with
  | 0, hj =>
    cases hj
    refine ⟨_, rfl, k33_mk w ⟨p, q⟩, fun i u hu => ?_⟩
    rw [show k33.sz = 2 from rfl, add0, cell_of_row w g _ _ _ _ h]
    match i, hu with
    | 0, hu => rw [← hu]; rfl
    | 1, hu => rw [← hu]; rfl
  | 1, hj =>
    cases hj
    refine ⟨_, rfl, k33_mk w ⟨r, s⟩, fun i u hu => ?_⟩
    rw [show k33.sz = 2 from rfl, add0, cell_of_row w g _ _ _ _ h]
    match i, hu with
    | 0, hu => rw [← hu]; rfl
    | 1, hu => rw [← hu]; rfl
/-- The node of a round. -/
def xT (k : Nat) (b : Int) : S26 := match k with
  | 1 => ⟨b, 1, ⟨#[112]⟩, [], ⟨#[]⟩, []⟩
  | 2 => ⟨b, 0, ⟨#[]⟩, [], ⟨#[116]⟩, []⟩
  | 3 => ⟨b, 1, ⟨#[116, 101, 109, 112, 108, 97, 116, 101]⟩, [], ⟨#[]⟩, []⟩
  | 4 => ⟨b, 1, ⟨#[116, 101, 109, 112, 108, 97, 116, 101]⟩, [], ⟨#[]⟩, [⟨6, 0, ⟨#[]⟩, [], ⟨#[]⟩, []⟩]⟩
  | 5 => ⟨b, 2, ⟨#[103]⟩, [⟨⟨#[97]⟩, ⟨#[]⟩⟩, ⟨⟨#[97]⟩, ⟨#[]⟩⟩], ⟨#[]⟩, []⟩
  | 6 => ⟨b, 0, ⟨#[104, 116, 109, 108]⟩, [], ⟨#[]⟩, []⟩
  | 7 => ⟨b, 2, ⟨#[116, 101, 109, 112, 108, 97, 116, 101]⟩, [], ⟨#[]⟩, [⟨4, 0, ⟨#[]⟩, [], ⟨#[97]⟩, []⟩, ⟨4, 0, ⟨#[]⟩, [], ⟨#[98]⟩, []⟩]⟩
  | _ => ⟨b, 0, ⟨#[]⟩, [], ⟨#[]⟩, []⟩
def yT (a : Int) (x : S26) : S26 := ⟨1, 0, ⟨#[]⟩, [], ⟨#[]⟩, [⟨a, 1, ⟨#[100, 105, 118]⟩, [], ⟨#[]⟩, [x]⟩]⟩
def zT (x : S26) : S26 := ⟨1, 0, ⟨#[]⟩, [], ⟨#[]⟩, [x, x]⟩
theorem xT_ok (k : Nat) (b : Int) : W (xT k b) ≤ 5 ∧ AllN NdOk (xT k b) := by
  unfold xT
  split <;> (refine ⟨by simp [W, WK], ?_⟩; simp [AllN, AllNK, NdOk, AttrOk]; try decide)
theorem sm_x (k : Nat) (b : Int) : Sm (xT k b) := sm_of _ (by have := (xT_ok k b).1; omega) (xT_ok k b).2
theorem sm_y (k : Nat) (a b : Int) : Sm (yT a (xT k b)) := sm_of _ (by have := (xT_ok k b).1; unfold yT; rw [W, WK, WK, W, WK, WK]; omega) (by
  have h := (xT_ok k b).2
  unfold yT
  rw [AllN, AllNK, AllNK, AllN, AllNK, AllNK]
  exact ⟨⟨by decide, by decide, Nat.zero_le _, by simp⟩, ⟨⟨by show (⟨#[100, 105, 118]⟩ : ByteArray).size ≤ 10; decide, by show (⟨#[]⟩ : ByteArray).size ≤ 9; decide, Nat.zero_le _, by simp⟩, h, trivial⟩, trivial⟩)
theorem sm_z (k : Nat) (b : Int) : Sm (zT (xT k b)) := sm_of _ (by have := (xT_ok k b).1; unfold zT; rw [W, WK, WK, WK]; omega) (by
  have h := (xT_ok k b).2
  unfold zT
  rw [AllN, AllNK, AllNK, AllNK]
  exact ⟨⟨by decide, by decide, Nat.zero_le _, by simp⟩, h, h, trivial⟩)
/-- The node, in its box. -/
def XRel (wr : World) (y : S26) (v4 : Value) (wx : World) : Prop := ∃ (X : Nat) (A3 : Option Addr) (c3 : Nat) (A5 : Option Addr) (c5 : Nat), v4 = .pointer (some ⟨X, 0, none⟩) ∧ wx.heap[X]? = some (.cells #[.int .i64 y.f0, .int .i64 y.f1, .string y.f2, .slice A3 y.f3.length c3, .string y.f4, .slice A5 y.f5.length c5] 26 (0, 0)) ∧ TV wx (.agg #[.int .i64 y.f0, .int .i64 y.f1, .string y.f2, .slice A3 y.f3.length c3, .string y.f4, .slice A5 y.f5.length c5]) y ∧ Below wr.heap.size wr wx
set_option maxHeartbeats 20000000 in
set_option maxRecDepth 100000 in
theorem treeNumbers (w : World) : Calls Try.prog 5 #[] w (RetV w (.bool true)) := by
  go_enter Try.func5, Try.ntmps5
  go_wp2_with fail
  go_loopw [1, 2, 3, 4, 5, 6] (fun v1 _ _ _ _ _ wr => ∃ ka : Nat, ka ≤ 9 ∧ v1 = .int .i64 ((ka : Int) - 1) ∧ Aside0 (Below w.heap.size w wr)) (fun v1 _ _ _ _ _ _ => 9 - (intOf v1 + 1).toNat)
  case atStart => exact ⟨0, by omega, rfl, ⟨Below.refl _ _⟩⟩
  case round =>
    obtain ⟨ka, hka, rfl, hb1⟩ := hrel
    have HB1 := hide hb1.out
    clear hb1
    by_cases h8a : ka < 9
    · have ta : (ka : Int) - 1 < 8 := by omega
      go_wp2_with fail
      go_loopw [2, 3, 4, 5, 6] (fun v2 _ _ _ _ wr => ∃ kb : Nat, kb ≤ 8 ∧ v2 = .int .i64 (kb : Int) ∧ Aside0 (Below w.heap.size w wr)) (fun v2 _ _ _ _ _ => 8 - (intOf v2).toNat)
      case atStart => exact ⟨0, by omega, rfl, ⟨HB1.out⟩⟩
      case round =>
        clear HB1
        obtain ⟨kb, hkb, rfl, hb2⟩ := hrel
        have HB2 := hide hb2.out
        clear hb2
        by_cases h8b : kb < 8
        · have tb : (kb : Int) < 8 := by omega
          go_wp2_with fail
          go_loopw [3, 4, 5, 6] (fun v3 _ _ _ wr => ∃ k : Nat, k ≤ 8 ∧ v3 = .int .i64 (k : Int) ∧ Aside0 (Below w.heap.size w wr)) (fun v3 _ _ _ _ => 8 - (intOf v3).toNat)
          case atStart => exact ⟨0, by omega, rfl, ⟨HB2.out⟩⟩
          case round =>
            clear HB2
            obtain ⟨k, hkk, rfl, hb3⟩ := hrel
            have HB3 := hide hb3.out
            clear hb3
            by_cases h8 : k < 8
            · have tk : (k : Int) < 8 := by omega
              go_upto_block 6 with fail
              have hXA := heap_alloc_new wr (.cells #[.int .i64 (kb : Int), .int .i64 0, .string ⟨#[]⟩, .slice none 0 0, .string ⟨#[]⟩, .slice none 0 0] 26)
              have hba := below_alloc (Below.refl wr.heap.size wr) (.cells #[.int .i64 (kb : Int), .int .i64 0, .string ⟨#[]⟩, .slice none 0 0, .string ⟨#[]⟩, .slice none 0 0] 26)
              obtain ⟨wA, hwA⟩ : ∃ z, wr.alloc (.cells #[.int .i64 (kb : Int), .int .i64 0, .string ⟨#[]⟩, .slice none 0 0, .string ⟨#[]⟩, .slice none 0 0] 26) = z := ⟨_, rfl⟩
              rw [hwA] at hXA hba ⊢
              obtain ⟨X, hX⟩ : ∃ z, wr.heap.size = z := ⟨_, rfl⟩
              have HXL := hide (show wr.heap.size ≤ X from by omega)
              have HBA := hide hba
              rw [hX] at hXA ⊢
              have HXA := hide hXA
              clear hXA hba hwA hX
              go_cut [] from 22 to 58 (fun wx => XRel wr (xT k (kb : Int)) (.pointer (some ⟨X, 0, none⟩)) wx)
              case first =>
                by_cases hk : k = 0
                · skip
                  have t1 : ((k : Int) == 1) = false := by rw [beq_eq_false_iff_ne]; omega
                  have t2 : ((k : Int) == 2) = false := by rw [beq_eq_false_iff_ne]; omega
                  have t3 : ((k : Int) == 3) = false := by rw [beq_eq_false_iff_ne]; omega
                  have t4 : ((k : Int) == 4) = false := by rw [beq_eq_false_iff_ne]; omega
                  have t5 : ((k : Int) == 5) = false := by rw [beq_eq_false_iff_ne]; omega
                  have t6 : ((k : Int) == 6) = false := by rw [beq_eq_false_iff_ne]; omega
                  have t7 : ((k : Int) == 7) = false := by rw [beq_eq_false_iff_ne]; omega
                  have hX0 := HXA.out
                  have y0 := cell_of_row _ _ 0 _ _ _ hX0
                  have g0 := blk_frozen hX0 0
                  have y1 := cell_of_row _ _ 1 _ _ _ hX0
                  have g1 := blk_frozen hX0 1
                  have y2 := cell_of_row _ _ 2 _ _ _ hX0
                  have g2 := blk_frozen hX0 2
                  have y3 := cell_of_row _ _ 3 _ _ _ hX0
                  have g3 := blk_frozen hX0 3
                  have y4 := cell_of_row _ _ 4 _ _ _ hX0
                  have g4 := blk_frozen hX0 4
                  have y5 := cell_of_row _ _ 5 _ _ _ hX0
                  have g5 := blk_frozen hX0 5
                  have HX0 := hide hX0
                  clear hX0
                  go_wp2_with fail
                  go_meet
                  have hX0 := HX0.out
                  rw [show xT k (kb : Int) = ⟨(kb : Int), 0, ⟨#[]⟩, [], ⟨#[]⟩, []⟩ from by rw [hk]; rfl]
                  exact ⟨X, none, 0, none, 0, rfl, hX0, ⟨none, 0, none, 0, rfl, Nat.le_refl _, Kd.C_nil _ _, Nat.le_refl _, Kd.C_nil _ _⟩, HBA.out⟩
                · skip
                  by_cases hk : k = 1
                  · skip
                    have t1 : ((k : Int) == 1) = true := by rw [beq_iff_eq]; omega
                    have hX0 := HXA.out
                    have y0 := cell_of_row _ _ 0 _ _ _ hX0
                    have g0 := blk_frozen hX0 0
                    have y1 := cell_of_row _ _ 1 _ _ _ hX0
                    have g1 := blk_frozen hX0 1
                    have y2 := cell_of_row _ _ 2 _ _ _ hX0
                    have g2 := blk_frozen hX0 2
                    have y3 := cell_of_row _ _ 3 _ _ _ hX0
                    have g3 := blk_frozen hX0 3
                    have y4 := cell_of_row _ _ 4 _ _ _ hX0
                    have g4 := blk_frozen hX0 4
                    have y5 := cell_of_row _ _ 5 _ _ _ hX0
                    have g5 := blk_frozen hX0 5
                    have HX0 := hide hX0
                    clear hX0
                    go_wp2_with fail
                    go_meet
                    have hX0 := HX0.out
                    rw [show xT k (kb : Int) = ⟨(kb : Int), 1, ⟨#[112]⟩, [], ⟨#[]⟩, []⟩ from by rw [hk]; rfl]
                    exact ⟨X, none, 0, none, 0, rfl, (blk_set (blk_set hX0 1 (.int .i64 1)) 2 (.string ⟨#[112]⟩)), ⟨none, 0, none, 0, rfl, Nat.le_refl _, Kd.C_nil _ _, Nat.le_refl _, Kd.C_nil _ _⟩, ((HBA.out.setCell (p := ⟨X, 1, none⟩) HXL.out (.int .i64 1)).setCell (p := ⟨X, 2, none⟩) HXL.out (.string ⟨#[112]⟩))⟩
                  · skip
                    by_cases hk : k = 2
                    · skip
                      have t1 : ((k : Int) == 1) = false := by rw [beq_eq_false_iff_ne]; omega
                      have t2 : ((k : Int) == 2) = true := by rw [beq_iff_eq]; omega
                      have hX0 := HXA.out
                      have y0 := cell_of_row _ _ 0 _ _ _ hX0
                      have g0 := blk_frozen hX0 0
                      have y1 := cell_of_row _ _ 1 _ _ _ hX0
                      have g1 := blk_frozen hX0 1
                      have y2 := cell_of_row _ _ 2 _ _ _ hX0
                      have g2 := blk_frozen hX0 2
                      have y3 := cell_of_row _ _ 3 _ _ _ hX0
                      have g3 := blk_frozen hX0 3
                      have y4 := cell_of_row _ _ 4 _ _ _ hX0
                      have g4 := blk_frozen hX0 4
                      have y5 := cell_of_row _ _ 5 _ _ _ hX0
                      have g5 := blk_frozen hX0 5
                      have HX0 := hide hX0
                      clear hX0
                      go_wp2_with fail
                      go_meet
                      have hX0 := HX0.out
                      rw [show xT k (kb : Int) = ⟨(kb : Int), 0, ⟨#[]⟩, [], ⟨#[116]⟩, []⟩ from by rw [hk]; rfl]
                      exact ⟨X, none, 0, none, 0, rfl, (blk_set hX0 4 (.string ⟨#[116]⟩)), ⟨none, 0, none, 0, rfl, Nat.le_refl _, Kd.C_nil _ _, Nat.le_refl _, Kd.C_nil _ _⟩, (HBA.out.setCell (p := ⟨X, 4, none⟩) HXL.out (.string ⟨#[116]⟩))⟩
                    · skip
                      by_cases hk : k = 3
                      · skip
                        have t1 : ((k : Int) == 1) = false := by rw [beq_eq_false_iff_ne]; omega
                        have t2 : ((k : Int) == 2) = false := by rw [beq_eq_false_iff_ne]; omega
                        have t3 : ((k : Int) == 3) = true := by rw [beq_iff_eq]; omega
                        have hX0 := HXA.out
                        have y0 := cell_of_row _ _ 0 _ _ _ hX0
                        have g0 := blk_frozen hX0 0
                        have y1 := cell_of_row _ _ 1 _ _ _ hX0
                        have g1 := blk_frozen hX0 1
                        have y2 := cell_of_row _ _ 2 _ _ _ hX0
                        have g2 := blk_frozen hX0 2
                        have y3 := cell_of_row _ _ 3 _ _ _ hX0
                        have g3 := blk_frozen hX0 3
                        have y4 := cell_of_row _ _ 4 _ _ _ hX0
                        have g4 := blk_frozen hX0 4
                        have y5 := cell_of_row _ _ 5 _ _ _ hX0
                        have g5 := blk_frozen hX0 5
                        have HX0 := hide hX0
                        clear hX0
                        go_wp2_with fail
                        go_meet
                        have hX0 := HX0.out
                        rw [show xT k (kb : Int) = ⟨(kb : Int), 1, ⟨#[116, 101, 109, 112, 108, 97, 116, 101]⟩, [], ⟨#[]⟩, []⟩ from by rw [hk]; rfl]
                        exact ⟨X, none, 0, none, 0, rfl, (blk_set (blk_set hX0 1 (.int .i64 1)) 2 (.string ⟨#[116, 101, 109, 112, 108, 97, 116, 101]⟩)), ⟨none, 0, none, 0, rfl, Nat.le_refl _, Kd.C_nil _ _, Nat.le_refl _, Kd.C_nil _ _⟩, ((HBA.out.setCell (p := ⟨X, 1, none⟩) HXL.out (.int .i64 1)).setCell (p := ⟨X, 2, none⟩) HXL.out (.string ⟨#[116, 101, 109, 112, 108, 97, 116, 101]⟩))⟩
                      · skip
                        by_cases hk : k = 4
                        · skip
                          have t1 : ((k : Int) == 1) = false := by rw [beq_eq_false_iff_ne]; omega
                          have t2 : ((k : Int) == 2) = false := by rw [beq_eq_false_iff_ne]; omega
                          have t3 : ((k : Int) == 3) = false := by rw [beq_eq_false_iff_ne]; omega
                          have t4 : ((k : Int) == 4) = true := by rw [beq_iff_eq]; omega
                          have hn := heap_alloc_new wA (.cells #[.int .i64 6, .int .i64 0, .string ⟨#[]⟩, .slice none 0 0, .string ⟨#[]⟩, .slice none 0 0] 26)
                          have ba := below_alloc (Below.refl wA.heap.size wA) (.cells #[.int .i64 6, .int .i64 0, .string ⟨#[]⟩, .slice none 0 0, .string ⟨#[]⟩, .slice none 0 0] 26)
                          have hXA2 := (ba.block _ (blk_lt HXA.out)).trans HXA.out
                          have hX0 := hXA2
                          have hne : wA.heap.size ≠ X := by have := blk_lt HXA.out; omega
                          have y0 := cell_of_row _ _ 0 _ _ _ hX0
                          have g0 := blk_frozen hX0 0
                          have y1 := cell_of_row _ _ 1 _ _ _ hX0
                          have g1 := blk_frozen hX0 1
                          have y2 := cell_of_row _ _ 2 _ _ _ hX0
                          have g2 := blk_frozen hX0 2
                          have y3 := cell_of_row _ _ 3 _ _ _ hX0
                          have g3 := blk_frozen hX0 3
                          have y4 := cell_of_row _ _ 4 _ _ _ hX0
                          have g4 := blk_frozen hX0 4
                          have y5 := cell_of_row _ _ 5 _ _ _ hX0
                          have g5 := blk_frozen hX0 5
                          have HX0 := hide hX0
                          clear hX0
                          go_wp2_with fail
                          go_meet
                          have hX0 := HX0.out
                          rw [show xT k (kb : Int) = ⟨(kb : Int), 1, ⟨#[116, 101, 109, 112, 108, 97, 116, 101]⟩, [], ⟨#[]⟩, [⟨6, 0, ⟨#[]⟩, [], ⟨#[]⟩, []⟩]⟩ from by rw [hk]; rfl]
                          have hnF := (Below.heap_setCell _ ⟨X, 5, none⟩ (.slice (some ⟨wA.heap.size, 0, none⟩) 1 1) _ hne).trans ((Below.heap_setCell _ ⟨X, 2, none⟩ (.string ⟨#[116, 101, 109, 112, 108, 97, 116, 101]⟩) _ hne).trans ((Below.heap_setCell _ ⟨X, 1, none⟩ (.int .i64 1) _ hne).trans (hn)))
                          have row := one_row (y := ⟨6, 0, ⟨#[]⟩, [], ⟨#[]⟩, []⟩) hnF (Nat.le_refl _) (Kd.C_nil _ _) (Nat.le_refl _) (Kd.C_nil _ _)
                          exact ⟨X, none, 0, (some ⟨wA.heap.size, 0, none⟩), 1, rfl, (blk_set (blk_set (blk_set hX0 1 (.int .i64 1)) 2 (.string ⟨#[116, 101, 109, 112, 108, 97, 116, 101]⟩)) 5 (.slice (some ⟨wA.heap.size, 0, none⟩) 1 1)), ⟨none, 0, some ⟨wA.heap.size, 0, none⟩, 1, rfl, Nat.le_refl _, Kd.C_nil _ _, Nat.le_refl _, row⟩, ((((below_step HBA.out ba).setCell (p := ⟨X, 1, none⟩) HXL.out (.int .i64 1)).setCell (p := ⟨X, 2, none⟩) HXL.out (.string ⟨#[116, 101, 109, 112, 108, 97, 116, 101]⟩)).setCell (p := ⟨X, 5, none⟩) HXL.out (.slice (some ⟨wA.heap.size, 0, none⟩) 1 1))⟩
                        · skip
                          by_cases hk : k = 5
                          · skip
                            have t1 : ((k : Int) == 1) = false := by rw [beq_eq_false_iff_ne]; omega
                            have t2 : ((k : Int) == 2) = false := by rw [beq_eq_false_iff_ne]; omega
                            have t3 : ((k : Int) == 3) = false := by rw [beq_eq_false_iff_ne]; omega
                            have t4 : ((k : Int) == 4) = false := by rw [beq_eq_false_iff_ne]; omega
                            have t5 : ((k : Int) == 5) = true := by rw [beq_iff_eq]; omega
                            have hn := heap_alloc_new wA (.cells #[.string ⟨#[97]⟩, .string ⟨#[]⟩, .string ⟨#[97]⟩, .string ⟨#[]⟩] 33)
                            have ba := below_alloc (Below.refl wA.heap.size wA) (.cells #[.string ⟨#[97]⟩, .string ⟨#[]⟩, .string ⟨#[97]⟩, .string ⟨#[]⟩] 33)
                            have hXA2 := (ba.block _ (blk_lt HXA.out)).trans HXA.out
                            have hX0 := hXA2
                            have hne : wA.heap.size ≠ X := by have := blk_lt HXA.out; omega
                            have y0 := cell_of_row _ _ 0 _ _ _ hX0
                            have g0 := blk_frozen hX0 0
                            have y1 := cell_of_row _ _ 1 _ _ _ hX0
                            have g1 := blk_frozen hX0 1
                            have y2 := cell_of_row _ _ 2 _ _ _ hX0
                            have g2 := blk_frozen hX0 2
                            have y3 := cell_of_row _ _ 3 _ _ _ hX0
                            have g3 := blk_frozen hX0 3
                            have y4 := cell_of_row _ _ 4 _ _ _ hX0
                            have g4 := blk_frozen hX0 4
                            have y5 := cell_of_row _ _ 5 _ _ _ hX0
                            have g5 := blk_frozen hX0 5
                            have HX0 := hide hX0
                            clear hX0
                            go_wp2_with fail
                            go_meet
                            have hX0 := HX0.out
                            rw [show xT k (kb : Int) = ⟨(kb : Int), 2, ⟨#[103]⟩, [⟨⟨#[97]⟩, ⟨#[]⟩⟩, ⟨⟨#[97]⟩, ⟨#[]⟩⟩], ⟨#[]⟩, []⟩ from by rw [hk]; rfl]
                            have hnF := (Below.heap_setCell _ ⟨X, 3, none⟩ (.slice (some ⟨wA.heap.size, 0, none⟩) 2 2) _ hne).trans ((Below.heap_setCell _ ⟨X, 2, none⟩ (.string ⟨#[103]⟩) _ hne).trans ((Below.heap_setCell _ ⟨X, 1, none⟩ (.int .i64 2) _ hne).trans (hn)))
                            have row := two_attrs hnF
                            exact ⟨X, (some ⟨wA.heap.size, 0, none⟩), 2, none, 0, rfl, (blk_set (blk_set (blk_set hX0 1 (.int .i64 2)) 2 (.string ⟨#[103]⟩)) 3 (.slice (some ⟨wA.heap.size, 0, none⟩) 2 2)), ⟨some ⟨wA.heap.size, 0, none⟩, 2, none, 0, rfl, Nat.le_refl _, row, Nat.le_refl _, Kd.C_nil _ _⟩, ((((below_step HBA.out ba).setCell (p := ⟨X, 1, none⟩) HXL.out (.int .i64 2)).setCell (p := ⟨X, 2, none⟩) HXL.out (.string ⟨#[103]⟩)).setCell (p := ⟨X, 3, none⟩) HXL.out (.slice (some ⟨wA.heap.size, 0, none⟩) 2 2))⟩
                          · skip
                            by_cases hk : k = 6
                            · skip
                              have t1 : ((k : Int) == 1) = false := by rw [beq_eq_false_iff_ne]; omega
                              have t2 : ((k : Int) == 2) = false := by rw [beq_eq_false_iff_ne]; omega
                              have t3 : ((k : Int) == 3) = false := by rw [beq_eq_false_iff_ne]; omega
                              have t4 : ((k : Int) == 4) = false := by rw [beq_eq_false_iff_ne]; omega
                              have t5 : ((k : Int) == 5) = false := by rw [beq_eq_false_iff_ne]; omega
                              have t6 : ((k : Int) == 6) = true := by rw [beq_iff_eq]; omega
                              have hX0 := HXA.out
                              have y0 := cell_of_row _ _ 0 _ _ _ hX0
                              have g0 := blk_frozen hX0 0
                              have y1 := cell_of_row _ _ 1 _ _ _ hX0
                              have g1 := blk_frozen hX0 1
                              have y2 := cell_of_row _ _ 2 _ _ _ hX0
                              have g2 := blk_frozen hX0 2
                              have y3 := cell_of_row _ _ 3 _ _ _ hX0
                              have g3 := blk_frozen hX0 3
                              have y4 := cell_of_row _ _ 4 _ _ _ hX0
                              have g4 := blk_frozen hX0 4
                              have y5 := cell_of_row _ _ 5 _ _ _ hX0
                              have g5 := blk_frozen hX0 5
                              have HX0 := hide hX0
                              clear hX0
                              go_wp2_with fail
                              go_meet
                              have hX0 := HX0.out
                              rw [show xT k (kb : Int) = ⟨(kb : Int), 0, ⟨#[104, 116, 109, 108]⟩, [], ⟨#[]⟩, []⟩ from by rw [hk]; rfl]
                              exact ⟨X, none, 0, none, 0, rfl, (blk_set hX0 2 (.string ⟨#[104, 116, 109, 108]⟩)), ⟨none, 0, none, 0, rfl, Nat.le_refl _, Kd.C_nil _ _, Nat.le_refl _, Kd.C_nil _ _⟩, (HBA.out.setCell (p := ⟨X, 2, none⟩) HXL.out (.string ⟨#[104, 116, 109, 108]⟩))⟩
                            · skip
                              have hk : k = 7 := by omega
                              have t1 : ((k : Int) == 1) = false := by rw [beq_eq_false_iff_ne]; omega
                              have t2 : ((k : Int) == 2) = false := by rw [beq_eq_false_iff_ne]; omega
                              have t3 : ((k : Int) == 3) = false := by rw [beq_eq_false_iff_ne]; omega
                              have t4 : ((k : Int) == 4) = false := by rw [beq_eq_false_iff_ne]; omega
                              have t5 : ((k : Int) == 5) = false := by rw [beq_eq_false_iff_ne]; omega
                              have t6 : ((k : Int) == 6) = false := by rw [beq_eq_false_iff_ne]; omega
                              have t7 : ((k : Int) == 7) = true := by rw [beq_iff_eq]; omega
                              have hn := heap_alloc_new wA (.cells #[.int .i64 4, .int .i64 0, .string ⟨#[]⟩, .slice none 0 0, .string ⟨#[97]⟩, .slice none 0 0, .int .i64 4, .int .i64 0, .string ⟨#[]⟩, .slice none 0 0, .string ⟨#[98]⟩, .slice none 0 0] 26)
                              have ba := below_alloc (Below.refl wA.heap.size wA) (.cells #[.int .i64 4, .int .i64 0, .string ⟨#[]⟩, .slice none 0 0, .string ⟨#[97]⟩, .slice none 0 0, .int .i64 4, .int .i64 0, .string ⟨#[]⟩, .slice none 0 0, .string ⟨#[98]⟩, .slice none 0 0] 26)
                              have hXA2 := (ba.block _ (blk_lt HXA.out)).trans HXA.out
                              have hX0 := hXA2
                              have hne : wA.heap.size ≠ X := by have := blk_lt HXA.out; omega
                              have y0 := cell_of_row _ _ 0 _ _ _ hX0
                              have g0 := blk_frozen hX0 0
                              have y1 := cell_of_row _ _ 1 _ _ _ hX0
                              have g1 := blk_frozen hX0 1
                              have y2 := cell_of_row _ _ 2 _ _ _ hX0
                              have g2 := blk_frozen hX0 2
                              have y3 := cell_of_row _ _ 3 _ _ _ hX0
                              have g3 := blk_frozen hX0 3
                              have y4 := cell_of_row _ _ 4 _ _ _ hX0
                              have g4 := blk_frozen hX0 4
                              have y5 := cell_of_row _ _ 5 _ _ _ hX0
                              have g5 := blk_frozen hX0 5
                              have HX0 := hide hX0
                              clear hX0
                              go_wp2_with fail
                              go_meet
                              have hX0 := HX0.out
                              rw [show xT k (kb : Int) = ⟨(kb : Int), 2, ⟨#[116, 101, 109, 112, 108, 97, 116, 101]⟩, [], ⟨#[]⟩, [⟨4, 0, ⟨#[]⟩, [], ⟨#[97]⟩, []⟩, ⟨4, 0, ⟨#[]⟩, [], ⟨#[98]⟩, []⟩]⟩ from by rw [hk]; rfl]
                              have hnF := (Below.heap_setCell _ ⟨X, 5, none⟩ (.slice (some ⟨wA.heap.size, 0, none⟩) 2 2) _ hne).trans ((Below.heap_setCell _ ⟨X, 2, none⟩ (.string ⟨#[116, 101, 109, 112, 108, 97, 116, 101]⟩) _ hne).trans ((Below.heap_setCell _ ⟨X, 1, none⟩ (.int .i64 2) _ hne).trans (hn)))
                              have row := two_rows (y := ⟨4, 0, ⟨#[]⟩, [], ⟨#[97]⟩, []⟩) (z := ⟨4, 0, ⟨#[]⟩, [], ⟨#[98]⟩, []⟩) hnF (Nat.le_refl _) (Kd.C_nil _ _) (Nat.le_refl _) (Kd.C_nil _ _) (Nat.le_refl _) (Kd.C_nil _ _) (Nat.le_refl _) (Kd.C_nil _ _)
                              exact ⟨X, none, 0, (some ⟨wA.heap.size, 0, none⟩), 2, rfl, (blk_set (blk_set (blk_set hX0 1 (.int .i64 2)) 2 (.string ⟨#[116, 101, 109, 112, 108, 97, 116, 101]⟩)) 5 (.slice (some ⟨wA.heap.size, 0, none⟩) 2 2)), ⟨none, 0, some ⟨wA.heap.size, 0, none⟩, 2, rfl, Nat.le_refl _, Kd.C_nil _ _, Nat.le_refl _, row⟩, ((((below_step HBA.out ba).setCell (p := ⟨X, 1, none⟩) HXL.out (.int .i64 2)).setCell (p := ⟨X, 2, none⟩) HXL.out (.string ⟨#[116, 101, 109, 112, 108, 97, 116, 101]⟩)).setCell (p := ⟨X, 5, none⟩) HXL.out (.slice (some ⟨wA.heap.size, 0, none⟩) 2 2))⟩
              case rest =>
                obtain ⟨X', A3, c3, A5, c5, hxx, hX, hTV, hbx⟩ := hcut
                cases hxx
                clear HXA HBA HXL
                have sx := sm_x k (kb : Int)
                have sy := sm_y k ((ka : Int) - 1) (kb : Int)
                have sz := sm_z k (kb : Int)
                have hy : yT ((ka : Int) - 1) (xT k (kb : Int)) = ⟨1, 0, ⟨#[]⟩, [], ⟨#[]⟩, [⟨(ka : Int) - 1, 1, ⟨#[100, 105, 118]⟩, [], ⟨#[]⟩, [xT k (kb : Int)]⟩]⟩ := rfl
                have hz : zT (xT k (kb : Int)) = ⟨1, 0, ⟨#[]⟩, [], ⟨#[]⟩, [xT k (kb : Int), xT k (kb : Int)]⟩ := rfl
                obtain ⟨⟨x0, x1, x2, x3, x4, x5⟩, hx⟩ : ∃ x, xT k (kb : Int) = x := ⟨_, rfl⟩
                rw [hx] at hX hTV sx sy sz hy hz
                rw [hy] at sy
                rw [hz] at sz
                dsimp only at hX hTV
                clear hx hy hz
                have a0 := cell_of_row _ _ 0 _ _ _ hX
                have a1 := cell_of_row _ _ 1 _ _ _ hX
                have a2 := cell_of_row _ _ 2 _ _ _ hX
                have a3 := cell_of_row _ _ 3 _ _ _ hX
                have a4 := cell_of_row _ _ 4 _ _ _ hX
                have a5 := cell_of_row _ _ 5 _ _ _ hX
                have h1 := heap_alloc_new wc (.cells #[.int .i64 x0, .int .i64 x1, .string x2, .slice A3 x3.length c3, .string x4, .slice A5 x5.length c5] 26)
                have b1 := below_alloc (Below.refl wc.heap.size wc) (.cells #[.int .i64 x0, .int .i64 x1, .string x2, .slice A3 x3.length c3, .string x4, .slice A5 x5.length c5] 26)
                have s1 : (wc.alloc (.cells #[.int .i64 x0, .int .i64 x1, .string x2, .slice A3 x3.length c3, .string x4, .slice A5 x5.length c5] 26)).heap.size = wc.heap.size + 1 := by simp
                have p0 := cellW a0 b1
                go_upto_region 27 with fail
                generalize wc.alloc (.cells #[.int .i64 x0, .int .i64 x1, .string x2, .slice A3 x3.length c3, .string x4, .slice A5 x5.length c5] 26) = v1 at h1 b1 s1 ⊢
                have h2 := heap_alloc_new v1 (.cells #[.int .i64 ((ka : Int) - 1), .int .i64 1, .string ⟨#[100, 105, 118]⟩, .slice none 0 0, .string ⟨#[]⟩, .slice (some ⟨wc.heap.size, 0, none⟩) 1 1] 26)
                have b2 := below_alloc (Below.refl v1.heap.size v1) (.cells #[.int .i64 ((ka : Int) - 1), .int .i64 1, .string ⟨#[100, 105, 118]⟩, .slice none 0 0, .string ⟨#[]⟩, .slice (some ⟨wc.heap.size, 0, none⟩) 1 1] 26)
                have s2 : (v1.alloc (.cells #[.int .i64 ((ka : Int) - 1), .int .i64 1, .string ⟨#[100, 105, 118]⟩, .slice none 0 0, .string ⟨#[]⟩, .slice (some ⟨wc.heap.size, 0, none⟩) 1 1] 26)).heap.size = v1.heap.size + 1 := by simp
                generalize v1.alloc (.cells #[.int .i64 ((ka : Int) - 1), .int .i64 1, .string ⟨#[100, 105, 118]⟩, .slice none 0 0, .string ⟨#[]⟩, .slice (some ⟨wc.heap.size, 0, none⟩) 1 1] 26) = v2 at h2 b2 s2 ⊢
                have h3 := heap_alloc_new v2 (.cells #[.int .i64 1, .int .i64 0, .string ⟨#[]⟩, .slice none 0 0, .string ⟨#[]⟩, .slice (some ⟨wc.heap.size + 1, 0, none⟩) 1 1] 26)
                have b3 := below_alloc (Below.refl v2.heap.size v2) (.cells #[.int .i64 1, .int .i64 0, .string ⟨#[]⟩, .slice none 0 0, .string ⟨#[]⟩, .slice (some ⟨wc.heap.size + 1, 0, none⟩) 1 1] 26)
                have s3 : (v2.alloc (.cells #[.int .i64 1, .int .i64 0, .string ⟨#[]⟩, .slice none 0 0, .string ⟨#[]⟩, .slice (some ⟨wc.heap.size + 1, 0, none⟩) 1 1] 26)).heap.size = v2.heap.size + 1 := by simp
                generalize v2.alloc (.cells #[.int .i64 1, .int .i64 0, .string ⟨#[]⟩, .slice none 0 0, .string ⟨#[]⟩, .slice (some ⟨wc.heap.size + 1, 0, none⟩) 1 1] 26) = v3 at h3 b3 s3 ⊢
                have b13 := below_step (below_step b1 b2) b3
                have q0 := cellW a0 b13
                have q1 := cellW a1 b13
                have q2 := cellW a2 b13
                have q3 := cellW a3 b13
                have q4 := cellW a4 b13
                have q5 := cellW a5 b13
                clear a0 a1 a2 a3 a4 a5 p0
                rw [s1] at h2
                rw [s2, s1] at h3 s3
                go_upto_region 28 with fail
                have h4 := heap_alloc_new v3 (.cells #[.int .i64 x0, .int .i64 x1, .string x2, .slice A3 x3.length c3, .string x4, .slice A5 x5.length c5, .int .i64 x0, .int .i64 x1, .string x2, .slice A3 x3.length c3, .string x4, .slice A5 x5.length c5] 26)
                have b4 := below_alloc (Below.refl v3.heap.size v3) (.cells #[.int .i64 x0, .int .i64 x1, .string x2, .slice A3 x3.length c3, .string x4, .slice A5 x5.length c5, .int .i64 x0, .int .i64 x1, .string x2, .slice A3 x3.length c3, .string x4, .slice A5 x5.length c5] 26)
                have s4 : (v3.alloc (.cells #[.int .i64 x0, .int .i64 x1, .string x2, .slice A3 x3.length c3, .string x4, .slice A5 x5.length c5, .int .i64 x0, .int .i64 x1, .string x2, .slice A3 x3.length c3, .string x4, .slice A5 x5.length c5] 26)).heap.size = v3.heap.size + 1 := by simp
                generalize v3.alloc (.cells #[.int .i64 x0, .int .i64 x1, .string x2, .slice A3 x3.length c3, .string x4, .slice A5 x5.length c5, .int .i64 x0, .int .i64 x1, .string x2, .slice A3 x3.length c3, .string x4, .slice A5 x5.length c5] 26) = v4 at h4 b4 s4 ⊢
                have h5 := heap_alloc_new v4 (.cells #[.int .i64 1, .int .i64 0, .string ⟨#[]⟩, .slice none 0 0, .string ⟨#[]⟩, .slice (some ⟨wc.heap.size + 1 + 1 + 1, 0, none⟩) 2 2] 26)
                have b5 := below_alloc (Below.refl v4.heap.size v4) (.cells #[.int .i64 1, .int .i64 0, .string ⟨#[]⟩, .slice none 0 0, .string ⟨#[]⟩, .slice (some ⟨wc.heap.size + 1 + 1 + 1, 0, none⟩) 2 2] 26)
                generalize v4.alloc (.cells #[.int .i64 1, .int .i64 0, .string ⟨#[]⟩, .slice none 0 0, .string ⟨#[]⟩, .slice (some ⟨wc.heap.size + 1 + 1 + 1, 0, none⟩) 2 2] 26) = v5 at h5 b5 ⊢
                rw [s3] at h4
                rw [s4, s3] at h5
                obtain ⟨E3, e3, E5, e5, er, l3, g3, l5, g5⟩ := hTV
                injection er with er
                injection er with er
                simp only [List.cons.injEq, Value.slice.injEq] at er
                obtain ⟨_, _, _, ⟨rfl, _, rfl⟩, _, ⟨rfl, _, rfl⟩, _⟩ := er
                have b34 := below_step b13 b4
                have b35 := below_step b34 b5
                have r1 : k26.C v1 (some ⟨wc.heap.size, 0, none⟩) 1 [⟨x0, x1, x2, x3, x4, x5⟩] := one_row (y := ⟨x0, x1, x2, x3, x4, x5⟩) h1 l3 (Kd.C_below g3 b1) l5 (Kd.C_below g5 b1)
                have r2 : k26.C v2 (some ⟨wc.heap.size + 1, 0, none⟩) 1 [⟨(ka : Int) - 1, 1, ⟨#[100, 105, 118]⟩, [], ⟨#[]⟩, [⟨x0, x1, x2, x3, x4, x5⟩]⟩] := one_row (y := ⟨(ka : Int) - 1, 1, ⟨#[100, 105, 118]⟩, [], ⟨#[]⟩, [⟨x0, x1, x2, x3, x4, x5⟩]⟩) h2 (Nat.le_refl _) (Kd.C_nil _ _) (Nat.le_refl _) (Kd.C_below r1 b2)
                have r4 : k26.C v4 (some ⟨wc.heap.size + 1 + 1 + 1, 0, none⟩) 2 [⟨x0, x1, x2, x3, x4, x5⟩, ⟨x0, x1, x2, x3, x4, x5⟩] := two_rows (y := ⟨x0, x1, x2, x3, x4, x5⟩) (z := ⟨x0, x1, x2, x3, x4, x5⟩) h4 l3 (Kd.C_below g3 b34) l5 (Kd.C_below g5 b34) l3 (Kd.C_below g3 b34) l5 (Kd.C_below g5 b34)
                have tx : ∀ W, Below v5.heap.size v5 W → TV W (.agg #[.int .i64 x0, .int .i64 x1, .string x2, .slice A3 x3.length c3, .string x4, .slice A5 x5.length c5]) ⟨x0, x1, x2, x3, x4, x5⟩ := fun W hW => ⟨_, _, _, _, rfl, l3, Kd.C_below (Kd.C_below g3 b35) hW, l5, Kd.C_below (Kd.C_below g5 b35) hW⟩
                have ty : ∀ W, Below v5.heap.size v5 W → TV W (.agg #[.int .i64 1, .int .i64 0, .string ⟨#[]⟩, .slice none 0 0, .string ⟨#[]⟩, .slice (some ⟨wc.heap.size + 1, 0, none⟩) 1 1]) ⟨1, 0, ⟨#[]⟩, [], ⟨#[]⟩, [⟨(ka : Int) - 1, 1, ⟨#[100, 105, 118]⟩, [], ⟨#[]⟩, [⟨x0, x1, x2, x3, x4, x5⟩]⟩]⟩ := fun W hW => ⟨none, 0, some ⟨wc.heap.size + 1, 0, none⟩, 1, rfl, Nat.le_refl _, Kd.C_nil _ _, Nat.le_refl _, Kd.C_below (Kd.C_below r2 (below_step (below_step b3 b4) b5)) hW⟩
                have tz : ∀ W, Below v5.heap.size v5 W → TV W (.agg #[.int .i64 1, .int .i64 0, .string ⟨#[]⟩, .slice none 0 0, .string ⟨#[]⟩, .slice (some ⟨wc.heap.size + 1 + 1 + 1, 0, none⟩) 2 2]) ⟨1, 0, ⟨#[]⟩, [], ⟨#[]⟩, [⟨x0, x1, x2, x3, x4, x5⟩, ⟨x0, x1, x2, x3, x4, x5⟩]⟩ := fun W hW => ⟨none, 0, some ⟨wc.heap.size + 1 + 1 + 1, 0, none⟩, 2, rfl, Nat.le_refl _, Kd.C_nil _ _, Nat.le_refl _, Kd.C_below (Kd.C_below r4 b5) hW⟩
                have HS1 := hide (fun W hW => same14 _ _ _ _ W (tx W hW) (ty W hW) sx)
                have HS2 := hide (fun W hW => same14 _ _ _ _ W (ty W hW) (tx W hW) sy)
                have HS3 := hide (fun W hW => same14 _ _ _ _ W (tz W hW) (tz W hW) sz)
                have HBV := hide (below_step HB3.out (below_step hbx b35))
                have hX5 := (b35.block _ (blk_lt hX)).trans hX
                have hE5 := ((below_step b4 b5).block _ (blk_lt h3)).trans h3
                clear h1 b1 s1 h2 b2 s2 b3 s3 b13 b4 s4 b5 l3 g3 l5 g5 b34 b35 r1 r2 r4 tx ty tz sx sy sz h3 h4 hX hbx q0 q1 q2 q3 q4 q5
                have HZ5 := hide h5
                have m0_ := cell_of_row _ _ 0 _ _ _ hX5
                have m1_ := cell_of_row _ _ 1 _ _ _ hX5
                have m2_ := cell_of_row _ _ 2 _ _ _ hX5
                have m3_ := cell_of_row _ _ 3 _ _ _ hX5
                have m4_ := cell_of_row _ _ 4 _ _ _ hX5
                have m5_ := cell_of_row _ _ 5 _ _ _ hX5
                have n0_ := cell_of_row _ _ 0 _ _ _ hE5
                have n1_ := cell_of_row _ _ 1 _ _ _ hE5
                have n2_ := cell_of_row _ _ 2 _ _ _ hE5
                have n3_ := cell_of_row _ _ 3 _ _ _ hE5
                have n4_ := cell_of_row _ _ 4 _ _ _ hE5
                have n5_ := cell_of_row _ _ 5 _ _ _ hE5
                have p0_ := cell_of_row _ _ 0 _ _ _ h5
                have p1_ := cell_of_row _ _ 1 _ _ _ h5
                have p2_ := cell_of_row _ _ 2 _ _ _ h5
                have p3_ := cell_of_row _ _ 3 _ _ _ h5
                have p4_ := cell_of_row _ _ 4 _ _ _ h5
                have p5_ := cell_of_row _ _ 5 _ _ _ h5
                clear hX5 hE5 h5
                have b0 := Below.refl v5.heap.size v5
                go_wp2_with (first | (go_at_call 16; (with_reducible refine (HS1.out _ b0).mono ?_); rintro e wx1 ⟨rfl, bx1⟩; have by1 := below_step b0 bx1; have m0_1 := cellW m0_ by1; have m1_1 := cellW m1_ by1; have m2_1 := cellW m2_ by1; have m3_1 := cellW m3_ by1; have m4_1 := cellW m4_ by1; have m5_1 := cellW m5_ by1; have n0_1 := cellW n0_ by1; have n1_1 := cellW n1_ by1; have n2_1 := cellW n2_ by1; have n3_1 := cellW n3_ by1; have n4_1 := cellW n4_ by1; have n5_1 := cellW n5_ by1; have p0_1 := cellW p0_ by1; have p1_1 := cellW p1_ by1; have p2_1 := cellW p2_ by1; have p3_1 := cellW p3_ by1; have p4_1 := cellW p4_ by1; have p5_1 := cellW p5_ by1) | (go_at_call 16; (with_reducible refine (HS2.out _ by1).mono ?_); rintro e wx2 ⟨rfl, bx2⟩; have by2 := below_step by1 bx2; have m0_2 := cellW m0_ by2; have m1_2 := cellW m1_ by2; have m2_2 := cellW m2_ by2; have m3_2 := cellW m3_ by2; have m4_2 := cellW m4_ by2; have m5_2 := cellW m5_ by2; have n0_2 := cellW n0_ by2; have n1_2 := cellW n1_ by2; have n2_2 := cellW n2_ by2; have n3_2 := cellW n3_ by2; have n4_2 := cellW n4_ by2; have n5_2 := cellW n5_ by2; have p0_2 := cellW p0_ by2; have p1_2 := cellW p1_ by2; have p2_2 := cellW p2_ by2; have p3_2 := cellW p3_ by2; have p4_2 := cellW p4_ by2; have p5_2 := cellW p5_ by2) | (go_at_call 16; (with_reducible refine (HS3.out _ by2).mono ?_); rintro e wx3 ⟨rfl, bx3⟩; have by3 := below_step by2 bx3; have m0_3 := cellW m0_ by3; have m1_3 := cellW m1_ by3; have m2_3 := cellW m2_ by3; have m3_3 := cellW m3_ by3; have m4_3 := cellW m4_ by3; have m5_3 := cellW m5_ by3; have n0_3 := cellW n0_ by3; have n1_3 := cellW n1_ by3; have n2_3 := cellW n2_ by3; have n3_3 := cellW n3_ by3; have n4_3 := cellW n4_ by3; have n5_3 := cellW n5_ by3; have p0_3 := cellW p0_ by3; have p1_3 := cellW p1_ by3; have p2_3 := cellW p2_ by3; have p3_3 := cellW p3_ by3; have p4_3 := cellW p4_ by3; have p5_3 := cellW p5_ by3))
                have HBF := hide (below_step HBV.out by3)
                go_roundw
                case rel => exact ⟨k + 1, by omega, by go_num, ⟨HBF.out⟩⟩
                case measure => simp only [intOf]; omega
            · have hke : ¬ (k : Int) < 8 := by omega
              clear h8
              go_wp2_with fail
              go_roundw
              case rel => exact ⟨kb + 1, by omega, by go_num, ⟨HB3.out⟩⟩
              case measure => simp only [intOf]; omega
        · have hke : ¬ (kb : Int) < 8 := by omega
          clear h8b
          go_wp2_with fail
          go_roundw
          case rel => exact ⟨ka + 1, by omega, by go_num, ⟨HB2.out⟩⟩
          case measure => simp only [intOf]; omega
    · have hke : ¬ (ka : Int) - 1 < 8 := by omega
      clear h8a
      go_wp2_with fail
      refine (known _).mono ?_
      rintro e w' ⟨rfl, hbk⟩
      dsimp only
      have HBK := hide hbk
      clear hbk
      go_wp2_with fail
      go_ret
      exact ⟨rfl, below_step HB1.out HBK.out⟩
/-- The law, as its row calls it. -/
theorem numbers (w : World) : Calls Try.prog 5 #[] w fun e w' => e = .returned (.bool true) ∧ Below w.heap.size w w' := treeNumbers w
end Go.Proofs.Ytaponaemgolmoaa.Tr
