/- The walk of arbourlaw14.same: it is true. -/
import Derived.Test.YtaponaemgolmoaaTrCalls
namespace Go.Proofs.Ytaponaemgolmoaa.Tr
open Go.RowKit Go.Proofs.Ytaponaemgolmoaa.PTreeTells Go.Proofs.YtaponaemgolmoaaW.PrintWords Go.Proofs.YtaponaemgolmoaaW.PrintLast
set_option linter.unusedVariables false
set_option linter.unusedSimpArgs false
set_option maxHeartbeats 20000000 in
set_option maxRecDepth 100000 in
theorem same14 (a b : S26) (va vb : Value) (w : World) (ha : TV w va a) (hb : TV w vb b) (sa : Sm a) : Calls Try.prog 16 #[va, vb] w (RetV w (.bool true)) := by
  obtain ⟨A3, c3, A5, c5, rfl, l3, g3, l5, g5⟩ := ha
  obtain ⟨B3, d3, B5, d5, rfl, m3, j3, m5, j5⟩ := hb
  obtain ⟨a0, a1, a2, a3, a4, a5⟩ := a
  obtain ⟨b0, b1, b2, b3, b4, b5⟩ := b
  dsimp only at *
  have b1_ := below_alloc (Below.refl w.heap.size w) (.cells #[.int .i64 a0, .int .i64 a1, .string a2, .slice A3 a3.length c3, .string a4, .slice A5 a5.length c5] 26)
  have hs1 : (w.alloc (.cells #[.int .i64 a0, .int .i64 a1, .string a2, .slice A3 a3.length c3, .string a4, .slice A5 a5.length c5] 26)).heap.size = w.heap.size + 1 := by simp
  have hX1 := heap_alloc_new w (.cells #[.int .i64 a0, .int .i64 a1, .string a2, .slice A3 a3.length c3, .string a4, .slice A5 a5.length c5] 26)
  obtain ⟨w1, hw1⟩ : ∃ w1, w.alloc (.cells #[.int .i64 a0, .int .i64 a1, .string a2, .slice A3 a3.length c3, .string a4, .slice A5 a5.length c5] 26) = w1 := ⟨_, rfl⟩
  rw [hw1] at b1_ hs1 hX1
  have b2_ := below_alloc (Below.refl w1.heap.size w1) (.cells #[.int .i64 b0, .int .i64 b1, .string b2, .slice B3 b3.length d3, .string b4, .slice B5 b5.length d5] 26)
  have hX2 := heap_alloc_new w1 (.cells #[.int .i64 b0, .int .i64 b1, .string b2, .slice B3 b3.length d3, .string b4, .slice B5 b5.length d5] 26)
  obtain ⟨w2, hw2⟩ : ∃ w2, w1.alloc (.cells #[.int .i64 b0, .int .i64 b1, .string b2, .slice B3 b3.length d3, .string b4, .slice B5 b5.length d5] 26) = w2 := ⟨_, rfl⟩
  rw [hw2] at b2_ hX2
  rw [hs1] at hX2
  have hX1' := (b2_.block _ (by omega)).trans hX1
  have hB2 := below_step b1_ b2_
  have HB2 := hide hB2
  have htva : ∀ W, Below w2.heap.size w2 W → TV W (.agg #[.int .i64 a0, .int .i64 a1, .string a2, .slice A3 a3.length c3, .string a4, .slice A5 a5.length c5]) ⟨a0, a1, a2, a3, a4, a5⟩ := fun W hW => ⟨A3, c3, A5, c5, rfl, l3, Kd.C_below (Kd.C_below g3 hB2) hW, l5, Kd.C_below (Kd.C_below g5 hB2) hW⟩
  have htvb : ∀ W, Below w2.heap.size w2 W → TV W (.agg #[.int .i64 b0, .int .i64 b1, .string b2, .slice B3 b3.length d3, .string b4, .slice B5 b5.length d5]) ⟨b0, b1, b2, b3, b4, b5⟩ := fun W hW => ⟨B3, d3, B5, d5, rfl, m3, Kd.C_below (Kd.C_below j3 hB2) hW, m5, Kd.C_below (Kd.C_below j5 hB2) hW⟩
  have HR1 := hide (fun W hW => c_right ⟨a0, a1, a2, a3, a4, a5⟩ _ W (htva W hW) sa)
  have HR2 := hide (fun W hW => r_right ⟨a0, a1, a2, a3, a4, a5⟩ _ W (htva W hW) sa)
  have HS1 := hide (fun W hW => c_same ⟨a0, a1, a2, a3, a4, a5⟩ ⟨b0, b1, b2, b3, b4, b5⟩ _ _ W (htva W hW) (htvb W hW) sa)
  have HS2 := hide (fun W hW => r_same ⟨a0, a1, a2, a3, a4, a5⟩ ⟨b0, b1, b2, b3, b4, b5⟩ _ _ W (htva W hW) (htvb W hW) sa)
  have HE1 := hide (fun W hW => c_same ⟨a0, a1, a2, a3, a4, a5⟩ ⟨a0, a1, a2, a3, a4, a5⟩ _ _ W (htva W hW) (htva W hW) sa)
  have HC1 := hide (fun W hW => c_count ⟨a0, a1, a2, a3, a4, a5⟩ _ W (htva W hW) sa)
  have HC2 := hide (fun W hW => r_count ⟨a0, a1, a2, a3, a4, a5⟩ _ W (htva W hW) sa)
  have HD1 := hide (fun W hW => c_depth ⟨a0, a1, a2, a3, a4, a5⟩ _ W (htva W hW) sa)
  have HD2 := hide (fun W hW => r_depth ⟨a0, a1, a2, a3, a4, a5⟩ _ W (htva W hW) sa)
  have HT1 := hide (fun W hW => c_text ⟨a0, a1, a2, a3, a4, a5⟩ _ W (htva W hW) sa)
  have HT2 := hide (fun W hW => r_text ⟨a0, a1, a2, a3, a4, a5⟩ _ W (htva W hW) sa)
  have HW1 := hide (fun W hW => c_show ⟨a0, a1, a2, a3, a4, a5⟩ _ W (htva W hW) sa)
  have HW2 := hide (fun W hW => r_show ⟨a0, a1, a2, a3, a4, a5⟩ _ W (htva W hW) sa)
  rw [eq_refl] at HE1
  clear htva htvb sa
  obtain ⟨v1, hv1⟩ : ∃ v, rightB ⟨a0, a1, a2, a3, a4, a5⟩ = v := ⟨_, rfl⟩
  obtain ⟨v2, hv2⟩ : ∃ v, eqT ⟨a0, a1, a2, a3, a4, a5⟩ ⟨b0, b1, b2, b3, b4, b5⟩ = v := ⟨_, rfl⟩
  obtain ⟨v3, hv3⟩ : ∃ v : Int, (cntT ⟨a0, a1, a2, a3, a4, a5⟩ : Int) = v := ⟨_, rfl⟩
  obtain ⟨v4, hv4⟩ : ∃ v : Int, (depT ⟨a0, a1, a2, a3, a4, a5⟩ : Int) = v := ⟨_, rfl⟩
  obtain ⟨v5, hv5⟩ : ∃ v : ByteArray, ⟨(txtT ⟨a0, a1, a2, a3, a4, a5⟩).toArray⟩ = v := ⟨_, rfl⟩
  obtain ⟨v6, hv6⟩ : ∃ v : ByteArray, ⟨(showR ⟨a0, a1, a2, a3, a4, a5⟩ []).toArray⟩ = v := ⟨_, rfl⟩
  rw [hv1] at HR1 HR2
  rw [hv2] at HS1 HS2
  rw [hv3] at HC1 HC2
  rw [hv4] at HD1 HD2
  rw [hv5] at HT1 HT2
  rw [hv6] at HW1 HW2
  have HSS := hide (fun (W : World) (h : Below w2.heap.size w2 W) => (⟨cellW (cell_of_row _ _ 0 _ _ _ hX1') h, cellW (cell_of_row _ _ 1 _ _ _ hX1') h, cellW (cell_of_row _ _ 2 _ _ _ hX1') h, cellW (cell_of_row _ _ 3 _ _ _ hX1') h, cellW (cell_of_row _ _ 4 _ _ _ hX1') h, cellW (cell_of_row _ _ 5 _ _ _ hX1') h, cellW (cell_of_row _ _ 0 _ _ _ hX2) h, cellW (cell_of_row _ _ 1 _ _ _ hX2) h, cellW (cell_of_row _ _ 2 _ _ _ hX2) h, cellW (cell_of_row _ _ 3 _ _ _ hX2) h, cellW (cell_of_row _ _ 4 _ _ _ hX2) h, cellW (cell_of_row _ _ 5 _ _ _ hX2) h⟩ : W.cell? ⟨w.heap.size, 0, none⟩ = some (.int .i64 a0) ∧ W.cell? ⟨w.heap.size, 1, none⟩ = some (.int .i64 a1) ∧ W.cell? ⟨w.heap.size, 2, none⟩ = some (.string a2) ∧ W.cell? ⟨w.heap.size, 3, none⟩ = some (.slice A3 a3.length c3) ∧ W.cell? ⟨w.heap.size, 4, none⟩ = some (.string a4) ∧ W.cell? ⟨w.heap.size, 5, none⟩ = some (.slice A5 a5.length c5) ∧ W.cell? ⟨(w.heap.size + 1), 0, none⟩ = some (.int .i64 b0) ∧ W.cell? ⟨(w.heap.size + 1), 1, none⟩ = some (.int .i64 b1) ∧ W.cell? ⟨(w.heap.size + 1), 2, none⟩ = some (.string b2) ∧ W.cell? ⟨(w.heap.size + 1), 3, none⟩ = some (.slice B3 b3.length d3) ∧ W.cell? ⟨(w.heap.size + 1), 4, none⟩ = some (.string b4) ∧ W.cell? ⟨(w.heap.size + 1), 5, none⟩ = some (.slice B5 b5.length d5)))
  have HZ1 := hide hs1
  have HQ1 := hide hw1
  have HQ2 := hide hw2
  clear hv1 hv2 hv3 hv4 hv5 hv6 b1_ b2_ hs1 hX1 hX2 hX1' hB2 hw1 hw2 g3 g5 j3 j5 l3 l5 m3 m5
  go_enter Try.func16, Try.ntmps16
  go_upto_region 1 with fail
  rw [HQ1.out, HQ2.out]
  clear HQ1 HQ2 HZ1
  refine wp_region_held_drew (S := fun W => W.cell? ⟨w.heap.size, 0, none⟩ = some (.int .i64 a0) ∧ W.cell? ⟨w.heap.size, 1, none⟩ = some (.int .i64 a1) ∧ W.cell? ⟨w.heap.size, 2, none⟩ = some (.string a2) ∧ W.cell? ⟨w.heap.size, 3, none⟩ = some (.slice A3 a3.length c3) ∧ W.cell? ⟨w.heap.size, 4, none⟩ = some (.string a4) ∧ W.cell? ⟨w.heap.size, 5, none⟩ = some (.slice A5 a5.length c5) ∧ W.cell? ⟨(w.heap.size + 1), 0, none⟩ = some (.int .i64 b0) ∧ W.cell? ⟨(w.heap.size + 1), 1, none⟩ = some (.int .i64 b1) ∧ W.cell? ⟨(w.heap.size + 1), 2, none⟩ = some (.string b2) ∧ W.cell? ⟨(w.heap.size + 1), 3, none⟩ = some (.slice B3 b3.length d3) ∧ W.cell? ⟨(w.heap.size + 1), 4, none⟩ = some (.string b4) ∧ W.cell? ⟨(w.heap.size + 1), 5, none⟩ = some (.slice B5 b5.length d5)) (by kernel_rfl) (HSS.out _ (Below.drew (Below.refl _ _))) (fun hHeld => ?_)
  have b0 := Below.drew (Below.refl w2.heap.size w2)
  generalize w2.drew = wd at b0 hHeld ⊢
  refine wpAnyH_take (i := 0) (oi := ?o0x1) (v := ?v0x1) ?ho0x1 (by kernel_rfl) (by kernel_rfl) (by kernel_rfl) ?hQ0x1 (Or.inl ⟨?hw0x1, ?hy0x1⟩) (by assumption) ?_
  case ho0x1 => (simp only [List.getElem?_toArray, List.getElem?_cons_succ, List.getElem?_cons_zero]; try rfl)
  case hQ0x1 => exact fun _ _ _ h => h
  case hw0x1 => rfl
  case hy0x1 => (intro w hSw; (try dsimp only at hSw); go_simp; (first | done | (with_reducible rfl)))
  (try simp only [Act.put, List.setIfInBounds_toArray, List.set_cons_zero, List.set_cons_succ])
  refine wpAnyH_take (i := 2) (oi := ?o2x2) (v := ?v2x2) ?ho2x2 (by kernel_rfl) (by kernel_rfl) (by kernel_rfl) ?hQ2x2 (Or.inl ⟨?hw2x2, ?hy2x2⟩) (by assumption) ?_
  case ho2x2 => (simp only [List.getElem?_toArray, List.getElem?_cons_succ, List.getElem?_cons_zero]; try rfl)
  case hQ2x2 => exact fun _ _ _ h => h
  case hw2x2 => rfl
  case hy2x2 => (intro w hSw; (try dsimp only at hSw); go_simp; (first | done | (with_reducible rfl)))
  (try simp only [Act.put, List.setIfInBounds_toArray, List.set_cons_zero, List.set_cons_succ])
  refine wpAnyH_ready (rs := [1]) (by kernel_rfl) (by simp) ?_
  refine (AllReadyH.cons (i := 1) (o := ?o1y3) ?ho1y3 (fun K hK => ?_) AllReadyH.nil)
  case ho1y3 => (simp only [List.getElem?_toArray, List.getElem?_cons_succ, List.getElem?_cons_zero]; try rfl)
  go_simp
  go_at_call 21
  (with_reducible refine (HR1.out _ b0).mono ?_)
  rintro e wq3 ⟨rfl, bs3⟩
  have bq3 := below_step b0 bs3
  clear bs3
  refine hK.out _ _ (HSS.out _ bq3) (fun _ => ?_)
  clear hK K
  (try simp only [Act.put, List.setIfInBounds_toArray, List.set_cons_zero, List.set_cons_succ])
  refine wpAnyH_ready (rs := [3]) (by kernel_rfl) (by simp) ?_
  refine (AllReadyH.cons (i := 3) (o := ?o3y4) ?ho3y4 (fun K hK => ?_) AllReadyH.nil)
  case ho3y4 => (simp only [List.getElem?_toArray, List.getElem?_cons_succ, List.getElem?_cons_zero]; try rfl)
  go_simp
  go_at_call 42
  (with_reducible refine (HR2.out _ bq3).mono ?_)
  rintro e wq4 ⟨rfl, bs4⟩
  have bq4 := below_step bq3 bs4
  clear bs4
  refine hK.out _ _ (HSS.out _ bq4) (fun _ => ?_)
  clear hK K
  (try simp only [Act.put, List.setIfInBounds_toArray, List.set_cons_zero, List.set_cons_succ])
  refine wpAnyH_take (i := 4) (oi := ?o4x5) (v := ?v4x5) ?ho4x5 (by kernel_rfl) (by kernel_rfl) (by kernel_rfl) ?hQ4x5 (Or.inl ⟨?hw4x5, ?hy4x5⟩) (by assumption) ?_
  case ho4x5 => (simp only [List.getElem?_toArray, List.getElem?_cons_succ, List.getElem?_cons_zero]; try rfl)
  case hQ4x5 => exact fun _ _ _ h => h
  case hw4x5 => rfl
  case hy4x5 => (intro w hSw; (try dsimp only at hSw); go_simp; (first | done | (with_reducible rfl)))
  (try simp only [Act.put, List.setIfInBounds_toArray, List.set_cons_zero, List.set_cons_succ])
  refine wpAnyH_take (i := 5) (oi := ?o5x6) (v := ?v5x6) ?ho5x6 (by kernel_rfl) (by kernel_rfl) (by kernel_rfl) ?hQ5x6 (Or.inl ⟨?hw5x6, ?hy5x6⟩) (by assumption) ?_
  case ho5x6 => (simp only [List.getElem?_toArray, List.getElem?_cons_succ, List.getElem?_cons_zero]; try rfl)
  case hQ5x6 => exact fun _ _ _ h => h
  case hw5x6 => rfl
  case hy5x6 => (intro w hSw; (try dsimp only at hSw); go_simp; (first | done | (with_reducible rfl)))
  (try simp only [Act.put, List.setIfInBounds_toArray, List.set_cons_zero, List.set_cons_succ])
  refine wpAnyH_take (i := 6) (oi := ?o6x7) (v := ?v6x7) ?ho6x7 (by kernel_rfl) (by kernel_rfl) (by kernel_rfl) ?hQ6x7 (Or.inl ⟨?hw6x7, ?hy6x7⟩) (by assumption) ?_
  case ho6x7 => (simp only [List.getElem?_toArray, List.getElem?_cons_succ, List.getElem?_cons_zero]; try rfl)
  case hQ6x7 => exact fun _ _ _ h => h
  case hw6x7 => rfl
  case hy6x7 => (intro w hSw; (try dsimp only at hSw); go_simp; (first | done | (with_reducible rfl)))
  (try simp only [Act.put, List.setIfInBounds_toArray, List.set_cons_zero, List.set_cons_succ])
  refine wpAnyH_take (i := 7) (oi := ?o7x8) (v := ?v7x8) ?ho7x8 (by kernel_rfl) (by kernel_rfl) (by kernel_rfl) ?hQ7x8 (Or.inl ⟨?hw7x8, ?hy7x8⟩) (by assumption) ?_
  case ho7x8 => (simp only [List.getElem?_toArray, List.getElem?_cons_succ, List.getElem?_cons_zero]; try rfl)
  case hQ7x8 => exact fun _ _ _ h => h
  case hw7x8 => rfl
  case hy7x8 => (intro w hSw; (try dsimp only at hSw); go_simp; (first | done | (with_reducible rfl)))
  (try simp only [Act.put, List.setIfInBounds_toArray, List.set_cons_zero, List.set_cons_succ])
  refine wpAnyH_take (i := 9) (oi := ?o9x9) (v := ?v9x9) ?ho9x9 (by kernel_rfl) (by kernel_rfl) (by kernel_rfl) ?hQ9x9 (Or.inl ⟨?hw9x9, ?hy9x9⟩) (by assumption) ?_
  case ho9x9 => (simp only [List.getElem?_toArray, List.getElem?_cons_succ, List.getElem?_cons_zero]; try rfl)
  case hQ9x9 => exact fun _ _ _ h => h
  case hw9x9 => rfl
  case hy9x9 => (intro w hSw; (try dsimp only at hSw); go_simp; (first | done | (with_reducible rfl)))
  (try simp only [Act.put, List.setIfInBounds_toArray, List.set_cons_zero, List.set_cons_succ])
  refine wpAnyH_take (i := 10) (oi := ?o10x10) (v := ?v10x10) ?ho10x10 (by kernel_rfl) (by kernel_rfl) (by kernel_rfl) ?hQ10x10 (Or.inl ⟨?hw10x10, ?hy10x10⟩) (by assumption) ?_
  case ho10x10 => (simp only [List.getElem?_toArray, List.getElem?_cons_succ, List.getElem?_cons_zero]; try rfl)
  case hQ10x10 => exact fun _ _ _ h => h
  case hw10x10 => rfl
  case hy10x10 => (intro w hSw; (try dsimp only at hSw); go_simp; (first | done | (with_reducible rfl)))
  (try simp only [Act.put, List.setIfInBounds_toArray, List.set_cons_zero, List.set_cons_succ])
  refine wpAnyH_ready (rs := [8]) (by kernel_rfl) (by simp) ?_
  refine (AllReadyH.cons (i := 8) (o := ?o8y11) ?ho8y11 (fun K hK => ?_) AllReadyH.nil)
  case ho8y11 => (simp only [List.getElem?_toArray, List.getElem?_cons_succ, List.getElem?_cons_zero]; try rfl)
  go_simp
  go_at_call 12
  (with_reducible refine (HS1.out _ bq4).mono ?_)
  rintro e wq11 ⟨rfl, bs11⟩
  have bq11 := below_step bq4 bs11
  clear bs11
  refine hK.out _ _ (HSS.out _ bq11) (fun _ => ?_)
  clear hK K
  (try simp only [Act.put, List.setIfInBounds_toArray, List.set_cons_zero, List.set_cons_succ])
  refine wpAnyH_ready (rs := [11]) (by kernel_rfl) (by simp) ?_
  refine (AllReadyH.cons (i := 11) (o := ?o11y12) ?ho11y12 (fun K hK => ?_) AllReadyH.nil)
  case ho11y12 => (simp only [List.getElem?_toArray, List.getElem?_cons_succ, List.getElem?_cons_zero]; try rfl)
  go_simp
  go_at_call 43
  (with_reducible refine (HS2.out _ bq11).mono ?_)
  rintro e wq12 ⟨rfl, bs12⟩
  have bq12 := below_step bq11 bs12
  clear bs12
  refine hK.out _ _ (HSS.out _ bq12) (fun _ => ?_)
  clear hK K
  (try simp only [Act.put, List.setIfInBounds_toArray, List.set_cons_zero, List.set_cons_succ])
  refine wpAnyH_take (i := 12) (oi := ?o12x13) (v := ?v12x13) ?ho12x13 (by kernel_rfl) (by kernel_rfl) (by kernel_rfl) ?hQ12x13 (Or.inl ⟨?hw12x13, ?hy12x13⟩) (by assumption) ?_
  case ho12x13 => (simp only [List.getElem?_toArray, List.getElem?_cons_succ, List.getElem?_cons_zero]; try rfl)
  case hQ12x13 => exact fun _ _ _ h => h
  case hw12x13 => rfl
  case hy12x13 => (intro w hSw; (try dsimp only at hSw); go_simp; (first | done | (with_reducible rfl)))
  (try simp only [Act.put, List.setIfInBounds_toArray, List.set_cons_zero, List.set_cons_succ])
  refine wpAnyH_take (i := 13) (oi := ?o13x14) (v := ?v13x14) ?ho13x14 (by kernel_rfl) (by kernel_rfl) (by kernel_rfl) ?hQ13x14 (Or.inl ⟨?hw13x14, ?hy13x14⟩) (by assumption) ?_
  case ho13x14 => (simp only [List.getElem?_toArray, List.getElem?_cons_succ, List.getElem?_cons_zero]; try rfl)
  case hQ13x14 => exact fun _ _ _ h => h
  case hw13x14 => rfl
  case hy13x14 => (intro w hSw; (try dsimp only at hSw); go_simp; (first | done | (with_reducible rfl)))
  (try simp only [Act.put, List.setIfInBounds_toArray, List.set_cons_zero, List.set_cons_succ])
  refine wpAnyH_take (i := 14) (oi := ?o14x15) (v := ?v14x15) ?ho14x15 (by kernel_rfl) (by kernel_rfl) (by kernel_rfl) ?hQ14x15 (Or.inl ⟨?hw14x15, ?hy14x15⟩) (by assumption) ?_
  case ho14x15 => (simp only [List.getElem?_toArray, List.getElem?_cons_succ, List.getElem?_cons_zero]; try rfl)
  case hQ14x15 => exact fun _ _ _ h => h
  case hw14x15 => rfl
  case hy14x15 => (intro w hSw; (try dsimp only at hSw); go_simp; (first | done | (with_reducible rfl)))
  (try simp only [Act.put, List.setIfInBounds_toArray, List.set_cons_zero, List.set_cons_succ])
  refine wpAnyH_take (i := 15) (oi := ?o15x16) (v := ?v15x16) ?ho15x16 (by kernel_rfl) (by kernel_rfl) (by kernel_rfl) ?hQ15x16 (Or.inl ⟨?hw15x16, ?hy15x16⟩) (by assumption) ?_
  case ho15x16 => (simp only [List.getElem?_toArray, List.getElem?_cons_succ, List.getElem?_cons_zero]; try rfl)
  case hQ15x16 => exact fun _ _ _ h => h
  case hw15x16 => rfl
  case hy15x16 => (intro w hSw; (try dsimp only at hSw); go_simp; (first | done | (with_reducible rfl)))
  (try simp only [Act.put, List.setIfInBounds_toArray, List.set_cons_zero, List.set_cons_succ])
  refine wpAnyH_take (i := 17) (oi := ?o17x17) (v := ?v17x17) ?ho17x17 (by kernel_rfl) (by kernel_rfl) (by kernel_rfl) ?hQ17x17 (Or.inl ⟨?hw17x17, ?hy17x17⟩) (by assumption) ?_
  case ho17x17 => (simp only [List.getElem?_toArray, List.getElem?_cons_succ, List.getElem?_cons_zero]; try rfl)
  case hQ17x17 => exact fun _ _ _ h => h
  case hw17x17 => rfl
  case hy17x17 => (intro w hSw; (try dsimp only at hSw); go_simp; (first | done | (with_reducible rfl)))
  (try simp only [Act.put, List.setIfInBounds_toArray, List.set_cons_zero, List.set_cons_succ])
  refine wpAnyH_ready (rs := [16]) (by kernel_rfl) (by simp) ?_
  refine (AllReadyH.cons (i := 16) (o := ?o16y18) ?ho16y18 (fun K hK => ?_) AllReadyH.nil)
  case ho16y18 => (simp only [List.getElem?_toArray, List.getElem?_cons_succ, List.getElem?_cons_zero]; try rfl)
  go_simp
  go_at_call 11
  (with_reducible refine (HC1.out _ bq12).mono ?_)
  rintro e wq18 ⟨rfl, bs18⟩
  have bq18 := below_step bq12 bs18
  clear bs18
  refine hK.out _ _ (HSS.out _ bq18) (fun _ => ?_)
  clear hK K
  (try simp only [Act.put, List.setIfInBounds_toArray, List.set_cons_zero, List.set_cons_succ])
  refine wpAnyH_ready (rs := [18]) (by kernel_rfl) (by simp) ?_
  refine (AllReadyH.cons (i := 18) (o := ?o18y19) ?ho18y19 (fun K hK => ?_) AllReadyH.nil)
  case ho18y19 => (simp only [List.getElem?_toArray, List.getElem?_cons_succ, List.getElem?_cons_zero]; try rfl)
  go_simp
  go_at_call 44
  (with_reducible refine (HC2.out _ bq18).mono ?_)
  rintro e wq19 ⟨rfl, bs19⟩
  have bq19 := below_step bq18 bs19
  clear bs19
  refine hK.out _ _ (HSS.out _ bq19) (fun _ => ?_)
  clear hK K
  (try simp only [Act.put, List.setIfInBounds_toArray, List.set_cons_zero, List.set_cons_succ])
  refine wpAnyH_take (i := 19) (oi := ?o19x20) (v := ?v19x20) ?ho19x20 (by kernel_rfl) (by kernel_rfl) (by kernel_rfl) ?hQ19x20 (Or.inl ⟨?hw19x20, ?hy19x20⟩) (by assumption) ?_
  case ho19x20 => (simp only [List.getElem?_toArray, List.getElem?_cons_succ, List.getElem?_cons_zero]; try rfl)
  case hQ19x20 => exact fun _ _ _ h => h
  case hw19x20 => rfl
  case hy19x20 => (intro w hSw; (try dsimp only at hSw); go_simp; (first | done | (with_reducible rfl)))
  (try simp only [Act.put, List.setIfInBounds_toArray, List.set_cons_zero, List.set_cons_succ])
  refine wpAnyH_take (i := 20) (oi := ?o20x21) (v := ?v20x21) ?ho20x21 (by kernel_rfl) (by kernel_rfl) (by kernel_rfl) ?hQ20x21 (Or.inl ⟨?hw20x21, ?hy20x21⟩) (by assumption) ?_
  case ho20x21 => (simp only [List.getElem?_toArray, List.getElem?_cons_succ, List.getElem?_cons_zero]; try rfl)
  case hQ20x21 => exact fun _ _ _ h => h
  case hw20x21 => rfl
  case hy20x21 => (intro w hSw; (try dsimp only at hSw); go_simp; (first | done | (with_reducible rfl)))
  (try simp only [Act.put, List.setIfInBounds_toArray, List.set_cons_zero, List.set_cons_succ])
  refine wpAnyH_take (i := 21) (oi := ?o21x22) (v := ?v21x22) ?ho21x22 (by kernel_rfl) (by kernel_rfl) (by kernel_rfl) ?hQ21x22 (Or.inl ⟨?hw21x22, ?hy21x22⟩) (by assumption) ?_
  case ho21x22 => (simp only [List.getElem?_toArray, List.getElem?_cons_succ, List.getElem?_cons_zero]; try rfl)
  case hQ21x22 => exact fun _ _ _ h => h
  case hw21x22 => rfl
  case hy21x22 => (intro w hSw; (try dsimp only at hSw); go_simp; (first | done | (with_reducible rfl)))
  (try simp only [Act.put, List.setIfInBounds_toArray, List.set_cons_zero, List.set_cons_succ])
  refine wpAnyH_take (i := 22) (oi := ?o22x23) (v := ?v22x23) ?ho22x23 (by kernel_rfl) (by kernel_rfl) (by kernel_rfl) ?hQ22x23 (Or.inl ⟨?hw22x23, ?hy22x23⟩) (by assumption) ?_
  case ho22x23 => (simp only [List.getElem?_toArray, List.getElem?_cons_succ, List.getElem?_cons_zero]; try rfl)
  case hQ22x23 => exact fun _ _ _ h => h
  case hw22x23 => rfl
  case hy22x23 => (intro w hSw; (try dsimp only at hSw); go_simp; (first | done | (with_reducible rfl)))
  (try simp only [Act.put, List.setIfInBounds_toArray, List.set_cons_zero, List.set_cons_succ])
  refine wpAnyH_take (i := 24) (oi := ?o24x24) (v := ?v24x24) ?ho24x24 (by kernel_rfl) (by kernel_rfl) (by kernel_rfl) ?hQ24x24 (Or.inl ⟨?hw24x24, ?hy24x24⟩) (by assumption) ?_
  case ho24x24 => (simp only [List.getElem?_toArray, List.getElem?_cons_succ, List.getElem?_cons_zero]; try rfl)
  case hQ24x24 => exact fun _ _ _ h => h
  case hw24x24 => rfl
  case hy24x24 => (intro w hSw; (try dsimp only at hSw); go_simp; (first | done | (with_reducible rfl)))
  (try simp only [Act.put, List.setIfInBounds_toArray, List.set_cons_zero, List.set_cons_succ])
  refine wpAnyH_ready (rs := [23]) (by kernel_rfl) (by simp) ?_
  refine (AllReadyH.cons (i := 23) (o := ?o23y25) ?ho23y25 (fun K hK => ?_) AllReadyH.nil)
  case ho23y25 => (simp only [List.getElem?_toArray, List.getElem?_cons_succ, List.getElem?_cons_zero]; try rfl)
  go_simp
  go_at_call 19
  (with_reducible refine (HD1.out _ bq19).mono ?_)
  rintro e wq25 ⟨rfl, bs25⟩
  have bq25 := below_step bq19 bs25
  clear bs25
  refine hK.out _ _ (HSS.out _ bq25) (fun _ => ?_)
  clear hK K
  (try simp only [Act.put, List.setIfInBounds_toArray, List.set_cons_zero, List.set_cons_succ])
  refine wpAnyH_ready (rs := [25]) (by kernel_rfl) (by simp) ?_
  refine (AllReadyH.cons (i := 25) (o := ?o25y26) ?ho25y26 (fun K hK => ?_) AllReadyH.nil)
  case ho25y26 => (simp only [List.getElem?_toArray, List.getElem?_cons_succ, List.getElem?_cons_zero]; try rfl)
  go_simp
  go_at_call 45
  (with_reducible refine (HD2.out _ bq25).mono ?_)
  rintro e wq26 ⟨rfl, bs26⟩
  have bq26 := below_step bq25 bs26
  clear bs26
  refine hK.out _ _ (HSS.out _ bq26) (fun _ => ?_)
  clear hK K
  (try simp only [Act.put, List.setIfInBounds_toArray, List.set_cons_zero, List.set_cons_succ])
  refine wpAnyH_take (i := 26) (oi := ?o26x27) (v := ?v26x27) ?ho26x27 (by kernel_rfl) (by kernel_rfl) (by kernel_rfl) ?hQ26x27 (Or.inl ⟨?hw26x27, ?hy26x27⟩) (by assumption) ?_
  case ho26x27 => (simp only [List.getElem?_toArray, List.getElem?_cons_succ, List.getElem?_cons_zero]; try rfl)
  case hQ26x27 => exact fun _ _ _ h => h
  case hw26x27 => rfl
  case hy26x27 => (intro w hSw; (try dsimp only at hSw); go_simp; (first | done | (with_reducible rfl)))
  (try simp only [Act.put, List.setIfInBounds_toArray, List.set_cons_zero, List.set_cons_succ])
  refine wpAnyH_take (i := 27) (oi := ?o27x28) (v := ?v27x28) ?ho27x28 (by kernel_rfl) (by kernel_rfl) (by kernel_rfl) ?hQ27x28 (Or.inl ⟨?hw27x28, ?hy27x28⟩) (by assumption) ?_
  case ho27x28 => (simp only [List.getElem?_toArray, List.getElem?_cons_succ, List.getElem?_cons_zero]; try rfl)
  case hQ27x28 => exact fun _ _ _ h => h
  case hw27x28 => rfl
  case hy27x28 => (intro w hSw; (try dsimp only at hSw); go_simp; (first | done | (with_reducible rfl)))
  (try simp only [Act.put, List.setIfInBounds_toArray, List.set_cons_zero, List.set_cons_succ])
  refine wpAnyH_take (i := 28) (oi := ?o28x29) (v := ?v28x29) ?ho28x29 (by kernel_rfl) (by kernel_rfl) (by kernel_rfl) ?hQ28x29 (Or.inl ⟨?hw28x29, ?hy28x29⟩) (by assumption) ?_
  case ho28x29 => (simp only [List.getElem?_toArray, List.getElem?_cons_succ, List.getElem?_cons_zero]; try rfl)
  case hQ28x29 => exact fun _ _ _ h => h
  case hw28x29 => rfl
  case hy28x29 => (intro w hSw; (try dsimp only at hSw); go_simp; (first | done | (with_reducible rfl)))
  (try simp only [Act.put, List.setIfInBounds_toArray, List.set_cons_zero, List.set_cons_succ])
  refine wpAnyH_take (i := 29) (oi := ?o29x30) (v := ?v29x30) ?ho29x30 (by kernel_rfl) (by kernel_rfl) (by kernel_rfl) ?hQ29x30 (Or.inl ⟨?hw29x30, ?hy29x30⟩) (by assumption) ?_
  case ho29x30 => (simp only [List.getElem?_toArray, List.getElem?_cons_succ, List.getElem?_cons_zero]; try rfl)
  case hQ29x30 => exact fun _ _ _ h => h
  case hw29x30 => rfl
  case hy29x30 => (intro w hSw; (try dsimp only at hSw); go_simp; (first | done | (with_reducible rfl)))
  (try simp only [Act.put, List.setIfInBounds_toArray, List.set_cons_zero, List.set_cons_succ])
  refine wpAnyH_take (i := 31) (oi := ?o31x31) (v := ?v31x31) ?ho31x31 (by kernel_rfl) (by kernel_rfl) (by kernel_rfl) ?hQ31x31 (Or.inl ⟨?hw31x31, ?hy31x31⟩) (by assumption) ?_
  case ho31x31 => (simp only [List.getElem?_toArray, List.getElem?_cons_succ, List.getElem?_cons_zero]; try rfl)
  case hQ31x31 => exact fun _ _ _ h => h
  case hw31x31 => rfl
  case hy31x31 => (intro w hSw; (try dsimp only at hSw); go_simp; (first | done | (with_reducible rfl)))
  (try simp only [Act.put, List.setIfInBounds_toArray, List.set_cons_zero, List.set_cons_succ])
  refine wpAnyH_ready (rs := [30]) (by kernel_rfl) (by simp) ?_
  refine (AllReadyH.cons (i := 30) (o := ?o30y32) ?ho30y32 (fun K hK => ?_) AllReadyH.nil)
  case ho30y32 => (simp only [List.getElem?_toArray, List.getElem?_cons_succ, List.getElem?_cons_zero]; try rfl)
  go_simp
  go_at_call 20
  (with_reducible refine (HT1.out _ bq26).mono ?_)
  rintro e wq32 ⟨rfl, bs32⟩
  have bq32 := below_step bq26 bs32
  clear bs32
  refine hK.out _ _ (HSS.out _ bq32) (fun _ => ?_)
  clear hK K
  (try simp only [Act.put, List.setIfInBounds_toArray, List.set_cons_zero, List.set_cons_succ])
  refine wpAnyH_ready (rs := [32]) (by kernel_rfl) (by simp) ?_
  refine (AllReadyH.cons (i := 32) (o := ?o32y33) ?ho32y33 (fun K hK => ?_) AllReadyH.nil)
  case ho32y33 => (simp only [List.getElem?_toArray, List.getElem?_cons_succ, List.getElem?_cons_zero]; try rfl)
  go_simp
  go_at_call 46
  (with_reducible refine (HT2.out _ bq32).mono ?_)
  rintro e wq33 ⟨rfl, bs33⟩
  have bq33 := below_step bq32 bs33
  clear bs33
  refine hK.out _ _ (HSS.out _ bq33) (fun _ => ?_)
  clear hK K
  (try simp only [Act.put, List.setIfInBounds_toArray, List.set_cons_zero, List.set_cons_succ])
  refine wpAnyH_take (i := 33) (oi := ?o33x34) (v := ?v33x34) ?ho33x34 (by kernel_rfl) (by kernel_rfl) (by kernel_rfl) ?hQ33x34 (Or.inl ⟨?hw33x34, ?hy33x34⟩) (by assumption) ?_
  case ho33x34 => (simp only [List.getElem?_toArray, List.getElem?_cons_succ, List.getElem?_cons_zero]; try rfl)
  case hQ33x34 => exact fun _ _ _ h => h
  case hw33x34 => rfl
  case hy33x34 => (intro w hSw; (try dsimp only at hSw); go_simp; (first | done | (with_reducible rfl)))
  (try simp only [Act.put, List.setIfInBounds_toArray, List.set_cons_zero, List.set_cons_succ])
  refine wpAnyH_take (i := 34) (oi := ?o34x35) (v := ?v34x35) ?ho34x35 (by kernel_rfl) (by kernel_rfl) (by kernel_rfl) ?hQ34x35 (Or.inl ⟨?hw34x35, ?hy34x35⟩) (by assumption) ?_
  case ho34x35 => (simp only [List.getElem?_toArray, List.getElem?_cons_succ, List.getElem?_cons_zero]; try rfl)
  case hQ34x35 => exact fun _ _ _ h => h
  case hw34x35 => rfl
  case hy34x35 => (intro w hSw; (try dsimp only at hSw); go_simp; (first | done | (with_reducible rfl)))
  (try simp only [Act.put, List.setIfInBounds_toArray, List.set_cons_zero, List.set_cons_succ])
  refine wpAnyH_take (i := 35) (oi := ?o35x36) (v := ?v35x36) ?ho35x36 (by kernel_rfl) (by kernel_rfl) (by kernel_rfl) ?hQ35x36 (Or.inl ⟨?hw35x36, ?hy35x36⟩) (by assumption) ?_
  case ho35x36 => (simp only [List.getElem?_toArray, List.getElem?_cons_succ, List.getElem?_cons_zero]; try rfl)
  case hQ35x36 => exact fun _ _ _ h => h
  case hw35x36 => rfl
  case hy35x36 => (intro w hSw; (try dsimp only at hSw); go_simp; (first | done | (with_reducible rfl)))
  (try simp only [Act.put, List.setIfInBounds_toArray, List.set_cons_zero, List.set_cons_succ])
  refine wpAnyH_take (i := 36) (oi := ?o36x37) (v := ?v36x37) ?ho36x37 (by kernel_rfl) (by kernel_rfl) (by kernel_rfl) ?hQ36x37 (Or.inl ⟨?hw36x37, ?hy36x37⟩) (by assumption) ?_
  case ho36x37 => (simp only [List.getElem?_toArray, List.getElem?_cons_succ, List.getElem?_cons_zero]; try rfl)
  case hQ36x37 => exact fun _ _ _ h => h
  case hw36x37 => rfl
  case hy36x37 => (intro w hSw; (try dsimp only at hSw); go_simp; (first | done | (with_reducible rfl)))
  (try simp only [Act.put, List.setIfInBounds_toArray, List.set_cons_zero, List.set_cons_succ])
  refine wpAnyH_take (i := 38) (oi := ?o38x38) (v := ?v38x38) ?ho38x38 (by kernel_rfl) (by kernel_rfl) (by kernel_rfl) ?hQ38x38 (Or.inl ⟨?hw38x38, ?hy38x38⟩) (by assumption) ?_
  case ho38x38 => (simp only [List.getElem?_toArray, List.getElem?_cons_succ, List.getElem?_cons_zero]; try rfl)
  case hQ38x38 => exact fun _ _ _ h => h
  case hw38x38 => rfl
  case hy38x38 => (intro w hSw; (try dsimp only at hSw); go_simp; (first | done | (with_reducible rfl)))
  (try simp only [Act.put, List.setIfInBounds_toArray, List.set_cons_zero, List.set_cons_succ])
  refine wpAnyH_ready (rs := [37]) (by kernel_rfl) (by simp) ?_
  refine (AllReadyH.cons (i := 37) (o := ?o37y39) ?ho37y39 (fun K hK => ?_) AllReadyH.nil)
  case ho37y39 => (simp only [List.getElem?_toArray, List.getElem?_cons_succ, List.getElem?_cons_zero]; try rfl)
  go_simp
  go_at_call 10
  (with_reducible refine (HW1.out _ bq33).mono ?_)
  rintro e wq39 ⟨rfl, bs39⟩
  have bq39 := below_step bq33 bs39
  clear bs39
  refine hK.out _ _ (HSS.out _ bq39) (fun _ => ?_)
  clear hK K
  (try simp only [Act.put, List.setIfInBounds_toArray, List.set_cons_zero, List.set_cons_succ])
  refine wpAnyH_ready (rs := [39]) (by kernel_rfl) (by simp) ?_
  refine (AllReadyH.cons (i := 39) (o := ?o39y40) ?ho39y40 (fun K hK => ?_) AllReadyH.nil)
  case ho39y40 => (simp only [List.getElem?_toArray, List.getElem?_cons_succ, List.getElem?_cons_zero]; try rfl)
  go_simp
  go_at_call 15
  (with_reducible refine (HW2.out _ bq39).mono ?_)
  rintro e wq40 ⟨rfl, bs40⟩
  have bq40 := below_step bq39 bs40
  clear bs40
  refine hK.out _ _ (HSS.out _ bq40) (fun _ => ?_)
  clear hK K
  (try simp only [Act.put, List.setIfInBounds_toArray, List.set_cons_zero, List.set_cons_succ])
  refine wpAnyH_take (i := 40) (oi := ?o40x41) (v := ?v40x41) ?ho40x41 (by kernel_rfl) (by kernel_rfl) (by kernel_rfl) ?hQ40x41 (Or.inl ⟨?hw40x41, ?hy40x41⟩) (by assumption) ?_
  case ho40x41 => (simp only [List.getElem?_toArray, List.getElem?_cons_succ, List.getElem?_cons_zero]; try rfl)
  case hQ40x41 => exact fun _ _ _ h => h
  case hw40x41 => rfl
  case hy40x41 => (intro w hSw; (try dsimp only at hSw); go_simp; (first | done | (with_reducible rfl)))
  (try simp only [Act.put, List.setIfInBounds_toArray, List.set_cons_zero, List.set_cons_succ])
  refine wpAnyH_take (i := 41) (oi := ?o41x42) (v := ?v41x42) ?ho41x42 (by kernel_rfl) (by kernel_rfl) (by kernel_rfl) ?hQ41x42 (Or.inl ⟨?hw41x42, ?hy41x42⟩) (by assumption) ?_
  case ho41x42 => (simp only [List.getElem?_toArray, List.getElem?_cons_succ, List.getElem?_cons_zero]; try rfl)
  case hQ41x42 => exact fun _ _ _ h => h
  case hw41x42 => rfl
  case hy41x42 => (intro w hSw; (try dsimp only at hSw); go_simp; (first | done | (with_reducible rfl)))
  (try simp only [Act.put, List.setIfInBounds_toArray, List.set_cons_zero, List.set_cons_succ])
  refine wpAnyH_take (i := 42) (oi := ?o42x43) (v := ?v42x43) ?ho42x43 (by kernel_rfl) (by kernel_rfl) (by kernel_rfl) ?hQ42x43 (Or.inl ⟨?hw42x43, ?hy42x43⟩) (by assumption) ?_
  case ho42x43 => (simp only [List.getElem?_toArray, List.getElem?_cons_succ, List.getElem?_cons_zero]; try rfl)
  case hQ42x43 => exact fun _ _ _ h => h
  case hw42x43 => rfl
  case hy42x43 => (intro w hSw; (try dsimp only at hSw); go_simp; (first | done | (with_reducible rfl)))
  (try simp only [Act.put, List.setIfInBounds_toArray, List.set_cons_zero, List.set_cons_succ])
  refine wpAnyH_take (i := 43) (oi := ?o43x44) (v := ?v43x44) ?ho43x44 (by kernel_rfl) (by kernel_rfl) (by kernel_rfl) ?hQ43x44 (Or.inl ⟨?hw43x44, ?hy43x44⟩) (by assumption) ?_
  case ho43x44 => (simp only [List.getElem?_toArray, List.getElem?_cons_succ, List.getElem?_cons_zero]; try rfl)
  case hQ43x44 => exact fun _ _ _ h => h
  case hw43x44 => rfl
  case hy43x44 => (intro w hSw; (try dsimp only at hSw); go_simp; (first | done | (with_reducible rfl)))
  (try simp only [Act.put, List.setIfInBounds_toArray, List.set_cons_zero, List.set_cons_succ])
  refine wpAnyH_take (i := 44) (oi := ?o44x45) (v := ?v44x45) ?ho44x45 (by kernel_rfl) (by kernel_rfl) (by kernel_rfl) ?hQ44x45 (Or.inl ⟨?hw44x45, ?hy44x45⟩) (by assumption) ?_
  case ho44x45 => (simp only [List.getElem?_toArray, List.getElem?_cons_succ, List.getElem?_cons_zero]; try rfl)
  case hQ44x45 => exact fun _ _ _ h => h
  case hw44x45 => rfl
  case hy44x45 => (intro w hSw; (try dsimp only at hSw); go_simp; (first | done | (with_reducible rfl)))
  (try simp only [Act.put, List.setIfInBounds_toArray, List.set_cons_zero, List.set_cons_succ])
  refine wpAnyH_ready (rs := [45]) (by kernel_rfl) (by simp) ?_
  refine (AllReadyH.cons (i := 45) (o := ?o45y46) ?ho45y46 (fun K hK => ?_) AllReadyH.nil)
  case ho45y46 => (simp only [List.getElem?_toArray, List.getElem?_cons_succ, List.getElem?_cons_zero]; try rfl)
  go_simp
  go_at_call 12
  (with_reducible refine (HE1.out _ bq40).mono ?_)
  rintro e wq46 ⟨rfl, bs46⟩
  have bq46 := below_step bq40 bs46
  clear bs46
  refine hK.out _ _ (HSS.out _ bq46) (fun _ => ?_)
  clear hK K
  (try simp only [Act.put, List.setIfInBounds_toArray, List.set_cons_zero, List.set_cons_succ])
  refine wpAnyH_take (i := 46) (oi := ?o46x47) (v := ?v46x47) ?ho46x47 (by kernel_rfl) (by kernel_rfl) (by kernel_rfl) ?hQ46x47 (Or.inl ⟨?hw46x47, ?hy46x47⟩) (by assumption) ?_
  case ho46x47 => (simp only [List.getElem?_toArray, List.getElem?_cons_succ, List.getElem?_cons_zero]; try rfl)
  case hQ46x47 => exact fun _ _ _ h => h
  case hw46x47 => rfl
  case hy46x47 => (intro w hSw; (try dsimp only at hSw); go_simp; (first | done | (with_reducible rfl)))
  (try simp only [Act.put, List.setIfInBounds_toArray, List.set_cons_zero, List.set_cons_succ])
  refine wpAnyH_ready (rs := [47]) (by kernel_rfl) (by simp) ?_
  refine (AllReadyH.cons (i := 47) (o := ?o47y48) ?ho47y48 (fun K hK => ?_) AllReadyH.nil)
  case ho47y48 => (simp only [List.getElem?_toArray, List.getElem?_cons_succ, List.getElem?_cons_zero]; try rfl)
  go_simp
  refine hK.out _ _ (HSS.out _ bq46) (fun _ => ?_)
  clear hK K
  (try simp only [Act.put, List.setIfInBounds_toArray, List.set_cons_zero, List.set_cons_succ])
  refine wpAnyH_done (by kernel_rfl) ?_ _
  have HBN := hide bq46
  go_wp2_with fail
  go_ret
  exact ⟨rfl, below_step HB2.out HBN.out⟩
end Go.Proofs.Ytaponaemgolmoaa.Tr
