/- The walks of compare.Label and arbourlaw24.same. -/
import Derived.Test.YteglfgmgpbablaaDoorCmpDiff
namespace Go.Proofs.YteglfgmgpbablaaDoor.Cmp
open Go.RowKit Go.Proofs.YteglfgmgpbablaaDoor.PCompareTells Go.Proofs.YteglfgmgpbablaaDoorW.PrintWords Go.Proofs.YteglfgmgpbablaaDoorW.PrintLast
/-- Two boxes with trees, made new. -/
theorem boxes (a b : S26) (A3 : Option Addr) (c3 : Nat) (A5 : Option Addr) (c5 : Nat) (B3 : Option Addr) (d3 : Nat) (B5 : Option Addr) (d5 : Nat) (w : World)
    (l3 : a.f3.length ≤ c3) (g3 : k47.C w A3 a.f3.length a.f3) (l5 : a.f5.length ≤ c5) (g5 : k26.C w A5 a.f5.length a.f5) (m3 : b.f3.length ≤ d3) (j3 : k47.C w B3 b.f3.length b.f3) (m5 : b.f5.length ≤ d5) (j5 : k26.C w B5 b.f5.length b.f5) :
    ∃ w2, (w.alloc (.cells #[.int .i64 a.f0, .int .i64 a.f1, .string a.f2, .slice A3 a.f3.length c3, .string a.f4, .slice A5 a.f5.length c5] 26)).alloc (.cells #[.int .i64 b.f0, .int .i64 b.f1, .string b.f2, .slice B3 b.f3.length d3, .string b.f4, .slice B5 b.f5.length d5] 26) = w2 ∧ Below w.heap.size w w2 ∧ w2.heap[w.heap.size]? = some (.cells #[.int .i64 a.f0, .int .i64 a.f1, .string a.f2, .slice A3 a.f3.length c3, .string a.f4, .slice A5 a.f5.length c5] 26 (0, 0)) ∧ w2.heap[w.heap.size + 1]? = some (.cells #[.int .i64 b.f0, .int .i64 b.f1, .string b.f2, .slice B3 b.f3.length d3, .string b.f4, .slice B5 b.f5.length d5] 26 (0, 0)) ∧ TAt w2 ⟨w.heap.size, 0, none⟩ a ∧ TAt w2 ⟨w.heap.size + 1, 0, none⟩ b := by
  have hb1 := below_alloc (Below.refl w.heap.size w) (.cells #[.int .i64 a.f0, .int .i64 a.f1, .string a.f2, .slice A3 a.f3.length c3, .string a.f4, .slice A5 a.f5.length c5] 26)
  have hs1 : (w.alloc (.cells #[.int .i64 a.f0, .int .i64 a.f1, .string a.f2, .slice A3 a.f3.length c3, .string a.f4, .slice A5 a.f5.length c5] 26)).heap.size = w.heap.size + 1 := by simp
  have hn1 := heap_alloc_new w (.cells #[.int .i64 a.f0, .int .i64 a.f1, .string a.f2, .slice A3 a.f3.length c3, .string a.f4, .slice A5 a.f5.length c5] 26)
  obtain ⟨w1, hw1⟩ : ∃ w1, w.alloc (.cells #[.int .i64 a.f0, .int .i64 a.f1, .string a.f2, .slice A3 a.f3.length c3, .string a.f4, .slice A5 a.f5.length c5] 26) = w1 := ⟨_, rfl⟩
  rw [hw1] at hb1 hs1 hn1 ⊢
  have hb2 := below_alloc (Below.refl w1.heap.size w1) (.cells #[.int .i64 b.f0, .int .i64 b.f1, .string b.f2, .slice B3 b.f3.length d3, .string b.f4, .slice B5 b.f5.length d5] 26)
  have hn2 := heap_alloc_new w1 (.cells #[.int .i64 b.f0, .int .i64 b.f1, .string b.f2, .slice B3 b.f3.length d3, .string b.f4, .slice B5 b.f5.length d5] 26)
  rw [hs1] at hn2
  have hb02 := below_step hb1 hb2
  exact ⟨_, rfl, hb02, (hb2.block _ (blk_lt hn1)).trans hn1, hn2, TAt_blk ((hb2.block _ (blk_lt hn1)).trans hn1) l3 (Kd.C_below g3 hb02) l5 (Kd.C_below g5 hb02), TAt_blk hn2 m3 (Kd.C_below j3 hb02) m5 (Kd.C_below j5 hb02)⟩
set_option maxHeartbeats 4000000 in
set_option maxRecDepth 100000 in
theorem clabel (a b : S26) (A3 : Option Addr) (c3 : Nat) (A5 : Option Addr) (c5 : Nat) (B3 : Option Addr) (d3 : Nat) (B5 : Option Addr) (d5 : Nat) (w : World)
    (l3 : a.f3.length ≤ c3) (g3 : k47.C w A3 a.f3.length a.f3) (l5 : a.f5.length ≤ c5) (g5 : k26.C w A5 a.f5.length a.f5) (m3 : b.f3.length ≤ d3) (j3 : k47.C w B3 b.f3.length b.f3) (m5 : b.f5.length ≤ d5) (j5 : k26.C w B5 b.f5.length b.f5) (hn : a.f3.length ≤ 1000000000) :
    Calls Tryd.prog 20 #[.agg #[.int .i64 a.f0, .int .i64 a.f1, .string a.f2, .slice A3 a.f3.length c3, .string a.f4, .slice A5 a.f5.length c5], .agg #[.int .i64 b.f0, .int .i64 b.f1, .string b.f2, .slice B3 b.f3.length d3, .string b.f4, .slice B5 b.f5.length d5]] w fun e w' => e = .returned (.bool (labL a b)) ∧ Below w.heap.size w w' := by
  obtain ⟨w2, hw2, hb2, _, _, ta, tb⟩ := boxes a b A3 c3 A5 c5 B3 d3 B5 d5 w l3 g3 l5 g5 m3 j3 m5 j5
  have HL := hide (label _ _ a b w2 ta tb hn)
  have HB := hide hb2
  have HW := hide hw2
  clear ta tb hb2 hw2 g3 g5 j3 j5
  obtain ⟨lr, hlr⟩ : ∃ lr, labL a b = lr := ⟨_, rfl⟩
  rw [hlr] at HL ⊢
  clear hlr
  go_enter Tryd.func20, Tryd.ntmps20
  go_wp2_with fail
  rw [HW.out]
  clear HW
  refine HL.out.mono ?_
  rintro e w3 ⟨rfl, hd⟩
  dsimp only
  have HB3 := hide (below_step HB.out hd.below)
  clear hd HL HB
  go_wp2_with fail
  go_ret
  exact ⟨rfl, HB3.out⟩
theorem sameInts_loop (l : List Int) (hb : l.length ≤ 1000000000) : ∀ d i k, l.length - i = d → i ≤ l.length → d < k → arbourbook_Same_int.l0 k l l (i : Int) = some true
  | 0, i, k, hd, hi, hk => by
    obtain ⟨k, rfl⟩ : ∃ m, k = m + 1 := ⟨k - 1, by omega⟩
    rw [arbourbook_Same_int.l0, if_neg (by omega)]
  | d + 1, i, k, hd, hi, hk => by
    obtain ⟨k, rfl⟩ : ∃ m, k = m + 1 := ⟨k - 1, by omega⟩
    rw [arbourbook_Same_int.l0, if_pos (by omega), if_pos (by omega), if_pos (by omega), if_pos rfl, show wrap64 ((i : Int) + 1) = ((i + 1 : Nat) : Int) from by rw [IntWalk.wrap64_in _ (by omega)]; rfl, sameInts_loop l hb d (i + 1) k (by omega) (by omega) (by omega)]
theorem sameInts (l : List Int) (hb : l.length ≤ 1000000000) : arbourbook_Same_int.f (l.length + 1) l l = some true := by
  unfold arbourbook_Same_int.f
  rw [if_pos rfl]
  exact sameInts_loop l hb l.length 0 _ (by omega) (by omega) (by omega)
set_option maxHeartbeats 8000000 in
set_option maxRecDepth 100000 in
theorem same24 (N : Nat) (a b : S26) (A3 : Option Addr) (c3 : Nat) (A5 : Option Addr) (c5 : Nat) (B3 : Option Addr) (d3 : Nat) (B5 : Option Addr) (d5 : Nat) (w : World)
    (l3 : a.f3.length ≤ c3) (g3 : k47.C w A3 a.f3.length a.f3) (l5 : a.f5.length ≤ c5) (g5 : k26.C w A5 a.f5.length a.f5) (m3 : b.f3.length ≤ d3) (j3 : k47.C w B3 b.f3.length b.f3) (m5 : b.f5.length ≤ d5) (j5 : k26.C w B5 b.f5.length b.f5) (hN : N ≤ 1000000) (ha : AL N a) (hb : AL N b) (hM : W a + W b ≤ 100000000) :
    Calls Tryd.prog 9 #[.agg #[.int .i64 a.f0, .int .i64 a.f1, .string a.f2, .slice A3 a.f3.length c3, .string a.f4, .slice A5 a.f5.length c5], .agg #[.int .i64 b.f0, .int .i64 b.f1, .string b.f2, .slice B3 b.f3.length d3, .string b.f4, .slice B5 b.f5.length d5]] w fun e w' => e = .returned (.bool true) ∧ Below w.heap.size w w' := by
  have hal := ha
  rw [AL_eq] at hal
  obtain ⟨w2, hw2, hb2, hA, hB, _, _⟩ := boxes a b A3 c3 A5 c5 B3 d3 B5 d5 w l3 g3 l5 g5 m3 j3 m5 j5
  have HDIF := hide (fun (W1 : World) (h : Below w2.heap.size w2 W1) => diff N a b A3 c3 A5 c5 B3 d3 B5 d5 W1 l3 (Kd.C_below (Kd.C_below g3 hb2) h) l5 (Kd.C_below (Kd.C_below g5 hb2) h) m3 (Kd.C_below (Kd.C_below j3 hb2) h) m5 (Kd.C_below (Kd.C_below j5 hb2) h) (by omega) ha hb hM)
  have hrd := refDiff N (by omega) (W a) a b (Nat.le_refl _) (by omega) ha (N + 4 * W a + 4) (Nat.le_refl _)
  have HREF := hide (fun (W1 : World) (h : Below w2.heap.size w2 W1) => arbourref14_Diff.calls (N + 4 * W a + 4) a.f0 a.f1 a.f2 A3 c3 a.f3 a.f4 A5 c5 a.f5 b.f0 b.f1 b.f2 B3 d3 b.f3 b.f4 B5 d5 b.f5 (resD (dif a b)).1 (resD (dif a b)).2 W1 (Kd.C_below (Kd.C_below g3 hb2) h) l3 (Kd.C_below (Kd.C_below g5 hb2) h) l5 (Kd.C_below (Kd.C_below j3 hb2) h) m3 (Kd.C_below (Kd.C_below j5 hb2) h) m5 hrd)
  have HLAB := hide (fun (W1 : World) (h : Below w2.heap.size w2 W1) => clabel a b A3 c3 A5 c5 B3 d3 B5 d5 W1 l3 (Kd.C_below (Kd.C_below g3 hb2) h) l5 (Kd.C_below (Kd.C_below g5 hb2) h) m3 (Kd.C_below (Kd.C_below j3 hb2) h) m5 (Kd.C_below (Kd.C_below j5 hb2) h) (by omega))
  have HRLB := hide (fun (W1 : World) (h : Below w2.heap.size w2 W1) => arbourref14_Label.calls (a.f3.length + 1) a.f0 a.f1 a.f2 A3 c3 a.f3 a.f4 A5 c5 a.f5 b.f0 b.f1 b.f2 B3 d3 b.f3 b.f4 B5 d5 b.f5 (labL a b) W1 (Kd.C_below (Kd.C_below g3 hb2) h) l3 (Kd.C_below (Kd.C_below g5 hb2) h) l5 (Kd.C_below (Kd.C_below j3 hb2) h) m3 (Kd.C_below (Kd.C_below j5 hb2) h) m5 (refLabel a b (by omega) _ (Nat.lt_succ_self _)))
  have hdl : (resD (dif a b)).1.length ≤ 100000000 := by
    cases e : dif a b with
    | none => simp [resD]
    | some p =>
      have := dif_len a b p e
      simp only [resD]
      omega
  have allS : ∀ W1 : World, Below w2.heap.size w2 W1 → W1.cell? ⟨w.heap.size, 0, none⟩ = some (.int .i64 a.f0) ∧ W1.cell? ⟨w.heap.size, 1, none⟩ = some (.int .i64 a.f1) ∧ W1.cell? ⟨w.heap.size, 2, none⟩ = some (.string a.f2) ∧ W1.cell? ⟨w.heap.size, 3, none⟩ = some (.slice A3 a.f3.length c3) ∧ W1.cell? ⟨w.heap.size, 4, none⟩ = some (.string a.f4) ∧ W1.cell? ⟨w.heap.size, 5, none⟩ = some (.slice A5 a.f5.length c5) ∧ W1.cell? ⟨w.heap.size + 1, 0, none⟩ = some (.int .i64 b.f0) ∧ W1.cell? ⟨w.heap.size + 1, 1, none⟩ = some (.int .i64 b.f1) ∧ W1.cell? ⟨w.heap.size + 1, 2, none⟩ = some (.string b.f2) ∧ W1.cell? ⟨w.heap.size + 1, 3, none⟩ = some (.slice B3 b.f3.length d3) ∧ W1.cell? ⟨w.heap.size + 1, 4, none⟩ = some (.string b.f4) ∧ W1.cell? ⟨w.heap.size + 1, 5, none⟩ = some (.slice B5 b.f5.length d5) ∧ Below w2.heap.size w2 W1 := by
    intro W1 hW
    have h1 := (hW.block _ (blk_lt hA)).trans hA
    have h2 := (hW.block _ (blk_lt hB)).trans hB
    exact ⟨cell_of_row _ _ 0 _ _ _ h1, cell_of_row _ _ 1 _ _ _ h1, cell_of_row _ _ 2 _ _ _ h1, cell_of_row _ _ 3 _ _ _ h1, cell_of_row _ _ 4 _ _ _ h1, cell_of_row _ _ 5 _ _ _ h1, cell_of_row _ _ 0 _ _ _ h2, cell_of_row _ _ 1 _ _ _ h2, cell_of_row _ _ 2 _ _ _ h2, cell_of_row _ _ 3 _ _ _ h2, cell_of_row _ _ 4 _ _ _ h2, cell_of_row _ _ 5 _ _ _ h2, hW⟩
  have HB := hide hb2
  have HW := hide hw2
  clear hb2 hw2 hA hB g3 g5 j3 j5 hN ha hb hM hal hrd l3 l5 m3 m5
  obtain ⟨⟨D1, D2⟩, hD⟩ : ∃ D, resD (dif a b) = D := ⟨_, rfl⟩
  obtain ⟨lr, hlr⟩ : ∃ lr, labL a b = lr := ⟨_, rfl⟩
  rw [hD] at HDIF HREF hdl
  rw [hlr] at HLAB HRLB
  clear hD hlr
  obtain ⟨a0, a1, a2, a3, a4, a5⟩ := a
  obtain ⟨b0, b1, b2, b3, b4, b5⟩ := b
  dsimp only at *
  have AS_ := hide allS
  have HDL := hide hdl
  have hI := allS w2 (Below.refl _ _)
  clear allS hdl
  obtain ⟨x0, x1, x2, x3, x4, x5, x6, x7, x8, x9, x10, x11, -⟩ := hI
  go_enter Tryd.func9, Tryd.ntmps9
  go_wp2_with fail
  rw [HW.out]
  clear HW
  refine (HDIF.out w2 (Below.refl _ _)).mono ?_
  rintro e w3 ⟨v3, rfl, hr3, hb3⟩
  dsimp only
  obtain ⟨AD, cD, rfl, lD, gD⟩ := Kd.R_reads hr3
  have HB3 := hide hb3
  have HGD := hide gD
  have HLD := hide lD
  clear hr3 gD lD x0 x1 x2 x3 x4 x5 x6 x7 x8 x9 x10 x11 HDIF
  obtain ⟨x0, x1, x2, x3, x4, x5, x6, x7, x8, x9, x10, x11, -⟩ := AS_.out w3 hb3
  clear hb3
  go_wp2_with fail
  refine (HREF.out w3 HB3.out).mono ?_
  rintro e w4 ⟨v4, rfl, hr4, hb4⟩
  dsimp only
  obtain ⟨AE, cE, rfl, lE, gE⟩ := Kd.R_reads hr4
  have HB4 := hide (below_step HB3.out hb4)
  have HSI := hide (fun (W1 : World) (h : Below w4.heap.size w4 W1) => arbourbook_Same_int.calls (D1.length + 1) AD cD D1 AE cE D1 true W1 (Kd.C_below (Kd.C_below HGD.out hb4) h) HLD.out (Kd.C_below gE h) lE (sameInts D1 (by have := HDL.out; omega)))
  have hz4 := hide hb4.size
  clear hr4 gE lE hb4 x0 x1 x2 x3 x4 x5 x6 x7 x8 x9 x10 x11 HREF HB3 HGD HLD
  go_wp2_with fail
  have hI : (fun W1 : World => (W1.cell? ⟨w.heap.size, 0, none⟩ = some (.int .i64 a0) ∧ W1.cell? ⟨w.heap.size, 1, none⟩ = some (.int .i64 a1) ∧ W1.cell? ⟨w.heap.size, 2, none⟩ = some (.string a2) ∧ W1.cell? ⟨w.heap.size, 3, none⟩ = some (.slice A3 a3.length c3) ∧ W1.cell? ⟨w.heap.size, 4, none⟩ = some (.string a4) ∧ W1.cell? ⟨w.heap.size, 5, none⟩ = some (.slice A5 a5.length c5) ∧ W1.cell? ⟨w.heap.size + 1, 0, none⟩ = some (.int .i64 b0) ∧ W1.cell? ⟨w.heap.size + 1, 1, none⟩ = some (.int .i64 b1) ∧ W1.cell? ⟨w.heap.size + 1, 2, none⟩ = some (.string b2) ∧ W1.cell? ⟨w.heap.size + 1, 3, none⟩ = some (.slice B3 b3.length d3) ∧ W1.cell? ⟨w.heap.size + 1, 4, none⟩ = some (.string b4) ∧ W1.cell? ⟨w.heap.size + 1, 5, none⟩ = some (.slice B5 b5.length d5) ∧ Below w2.heap.size w2 W1) ∧ Below w4.heap.size w4 W1) w4.drew := ⟨AS_.out _ HB4.out.drew, (Below.refl _ _).drew⟩
  first
  | go_region_held3 (fun W1 => (W1.cell? ⟨w.heap.size, 0, none⟩ = some (.int .i64 a0) ∧ W1.cell? ⟨w.heap.size, 1, none⟩ = some (.int .i64 a1) ∧ W1.cell? ⟨w.heap.size, 2, none⟩ = some (.string a2) ∧ W1.cell? ⟨w.heap.size, 3, none⟩ = some (.slice A3 a3.length c3) ∧ W1.cell? ⟨w.heap.size, 4, none⟩ = some (.string a4) ∧ W1.cell? ⟨w.heap.size, 5, none⟩ = some (.slice A5 a5.length c5) ∧ W1.cell? ⟨w.heap.size + 1, 0, none⟩ = some (.int .i64 b0) ∧ W1.cell? ⟨w.heap.size + 1, 1, none⟩ = some (.int .i64 b1) ∧ W1.cell? ⟨w.heap.size + 1, 2, none⟩ = some (.string b2) ∧ W1.cell? ⟨w.heap.size + 1, 3, none⟩ = some (.slice B3 b3.length d3) ∧ W1.cell? ⟨w.heap.size + 1, 4, none⟩ = some (.string b4) ∧ W1.cell? ⟨w.heap.size + 1, 5, none⟩ = some (.slice B5 b5.length d5) ∧ Below w2.heap.size w2 W1) ∧ Below w4.heap.size w4 W1)
    (first | exact hI | ((try go_split_ands); exact ⟨AS_.out _ (below_step (by assumption) bN), below_step (by assumption) bN⟩) | go_keep)
    (first | (go_at_call 16; (try go_split_ands); (with_reducible refine (HSI.out _ (by assumption)).mono ?_); rintro e wn ⟨rfl, dN⟩; have bN := Drawn0.below dN) | (go_at_call 20; (try go_split_ands); (with_reducible refine (HLAB.out _ (by assumption)).mono ?_); rintro e wn ⟨rfl, bN⟩) | (go_at_call 24; (try go_split_ands); (with_reducible refine (HRLB.out _ (by assumption)).mono ?_); rintro e wn ⟨rfl, bN⟩))
  | fail
  (try go_split_ands)
  go_wp2_with fail
  go_ret
  exact ⟨by cases lr <;> cases D2 <;> rfl, HB.out.trans (Below.mono (by assumption) HB.out.size)⟩
end Go.Proofs.YteglfgmgpbablaaDoor.Cmp
