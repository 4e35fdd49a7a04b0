/- The walk of the law TreeCopies: it is true. -/
import Derived.Test.YtaponaemgolmoaaTrCopyF
import Derived.Test.YtaponaemgolmoaaTrCalls
import Derived.Test.YtaponaemgolmoaaTrKnown
namespace Go.Proofs.Ytaponaemgolmoaa.Tr
open Go.RowKit Go.Proofs.Ytaponaemgolmoaa.PTreeTells Go.Proofs.YtaponaemgolmoaaW.PrintWords Go.Proofs.YtaponaemgolmoaaW.PrintLast
set_option linter.unusedVariables false
set_option linter.unusedSimpArgs false
theorem boxA (w : World) (u : Array Value) : ∃ w2, w.alloc (.cells u 26) = w2 ∧ Below w.heap.size w w2 ∧ w2.heap[w.heap.size]? = some (.cells u 26 (0, 0)) ∧ w2.heap.size = w.heap.size + 1 :=
  ⟨_, rfl, below_alloc (Below.refl _ _) _, heap_alloc_new _ _, by simp⟩
theorem kid_small {t x : S26} (h : Sm t) {i : Nat} (hx : t.f5[i]? = some x) : x.f3.length ≤ 10 ∧ x.f5.length ≤ 100000 ∧ t.f5.length ≤ 100000 := by
  obtain ⟨hi, e⟩ := List.getElem?_eq_some_iff.1 hx
  have e2 : rd_T26 t.f5 (i : Int) = x := by
    unfold rd_T26
    rw [Int.toNat_natCast, List.getD_eq_getElem?_getD, hx]
    rfl
  have h1 := WK_at t.f5 i hi
  have h2 := W_eq t
  have h3 := h.w
  have h4 := h.al
  rw [AL_eq] at h4
  have h5 := ALK_at 10 t.f5 i hi h4.2
  rw [e2] at h1 h5
  rw [AL_eq] at h5
  have h6 := W_eq x
  have h7 := WK_len x.f5
  have h8 := WK_len t.f5
  exact ⟨h5.1, by omega, by omega⟩
/-- 'grow', its tree opened. -/
theorem growF (right : Bool) (l : List S30) (A : Option Addr) (c : Nat) (w : World) (hC : k30.C w A l.length l) (hc : l.length ≤ c) :
    Calls Try.prog 9 #[.slice A l.length c, .bool right] w fun e w' => ∃ (A3 : Option Addr) (c3 : Nat) (A5 : Option Addr) (c5 : Nat), e = .returned (.agg #[.int .i64 (growL right l).f0, .int .i64 (growL right l).f1, .string (growL right l).f2, .slice A3 (growL right l).f3.length c3, .string (growL right l).f4, .slice A5 (growL right l).f5.length c5]) ∧ TF w' (fun j => j < w'.heap.size) (.agg #[.int .i64 (growL right l).f0, .int .i64 (growL right l).f1, .string (growL right l).f2, .slice A3 (growL right l).f3.length c3, .string (growL right l).f4, .slice A5 (growL right l).f5.length c5]) (growL right l) ∧ Below w.heap.size w w' :=
  (grow right l A c w hC hc).mono fun e w' ⟨v, he, ht, hb⟩ => by
    obtain ⟨A3, c3, A5, c5, rfl, -⟩ := ht.open_
    exact ⟨A3, c3, A5, c5, he, ht.bound.mono (fun j hj => hj.2), hb⟩
set_option maxHeartbeats 20000000 in
set_option maxRecDepth 100000 in
theorem treeCopies (l : List S30) (A : Option Addr) (c : Nat) (w : World) (hl : k30.C w A l.length l) (hc : l.length ≤ c) :
    Calls Try.prog 4 #[.slice A l.length c] w (RetV w (.bool true)) := by
  have HG := hide (growF true l A c w hl hc)
  obtain ⟨t, ht⟩ : ∃ t, growL true l = t := ⟨_, rfl⟩
  have hsm := grow_sm true l
  rw [ht] at HG hsm
  clear ht hl hc
  obtain ⟨n, hn⟩ : ∃ n, l.length = n := ⟨_, rfl⟩
  rw [hn] at HG ⊢
  clear hn
  have HSM := hide hsm
  clear hsm
  obtain ⟨P, hP⟩ : ∃ P : ByteArray, (⟨(showR t []).toArray⟩ : ByteArray) = P := ⟨_, rfl⟩
  have HP := hide hP
  clear hP
  obtain ⟨m, hm⟩ : ∃ m, cntT t = m := ⟨_, rfl⟩
  have HM := hide hm
  clear hm
  obtain ⟨t0, t1, t2, t3, t4, t5⟩ := t
  dsimp only at *
  go_enter Try.func4, Try.ntmps4
  go_upto_region 2 with (go_at_call 9; (with_reducible refine HG.out.mono ?_); rintro e wa ⟨A3, c3, A5, c5, rfl, ta, ba⟩; have HTA := hide ta; have HBA := hide ba; clear ta ba)
  obtain ⟨w1, hw1, bw1, hX3, hs1⟩ := boxA wa #[.int .i64 t0, .int .i64 t1, .string t2, .slice A3 t3.length c3, .string t4, .slice A5 t5.length c5]
  rw [hw1]
  have HT1 := hide (HTA.out.below bw1)
  have HB1 := hide (below_step HBA.out bw1)
  obtain ⟨X3, hX⟩ : ∃ X, wa.heap.size = X := ⟨_, rfl⟩
  rw [hX] at HT1 hX3 hs1 ⊢
  clear hw1 bw1 HTA HBA hX HG
  have HS1 := hide hs1
  have HX3 := hide hX3
  have HCP := hide (copyF ⟨t0, t1, t2, t3, t4, t5⟩ A3 c3 A5 c5 w1 _ HT1.out (by have := HSM.out.w; omega) (AL_mono (by omega) _ HSM.out.al))
  dsimp only at HCP
  have p0 := cell_of_row _ _ 0 _ _ _ hX3
  have p1 := cell_of_row _ _ 1 _ _ _ hX3
  have p2 := cell_of_row _ _ 2 _ _ _ hX3
  have p3 := cell_of_row _ _ 3 _ _ _ hX3
  have p4 := cell_of_row _ _ 4 _ _ _ hX3
  have p5 := cell_of_row _ _ 5 _ _ _ hX3
  clear hs1 hX3
  go_upto_region 3 with (go_at_call 14; (with_reducible refine HCP.out.mono ?_); rintro e wb ⟨B3, d3, B5, d5, rfl, hr, bb⟩; have HRS := hide hr; have HBB := hide bb; clear hr bb)
  clear p0 p1 p2 p3 p4 p5 HCP
  obtain ⟨w2, hw2, bw2, hX4, hs2⟩ := boxA wb #[.int .i64 t0, .int .i64 t1, .string t2, .slice B3 t3.length d3, .string t4, .slice B5 t5.length d5]
  rw [hw2]
  have hr := HRS.out
  unfold CopyResF at hr
  obtain ⟨⟨hd3, hf3, rs, hR, hrl, hKL⟩, hkf⟩ := hr
  have tc := (own_tree (n := 0) (t := ⟨t0, t1, t2, t3, t4, t5⟩) hR hKL hd3 hf3).now.below bw2
  have b12 := below_step HBB.out bw2
  have tt := HT1.out.now.below b12
  have x3 := (b12.block X3 (blk_lt HX3.out)).trans HX3.out
  obtain ⟨X4, hX⟩ : ∃ X, wb.heap.size = X := ⟨_, rfl⟩
  obtain ⟨Z, hZ⟩ : ∃ Z, 0 < t5.length → B5 = some ⟨Z, 0, none⟩ ∧ w1.heap.size ≤ Z ∧ Z < X4 := by
    by_cases h0 : 0 < t5.length
    · obtain ⟨g, cap, e, h1, h2, -⟩ := Kd.R_form hR (by rw [hrl]; exact h0)
      injection e with e _ _
      exact ⟨g, fun _ => ⟨e, h1, by rw [← hX]; exact h2⟩⟩
    · exact ⟨0, fun h => absurd h h0⟩
  rw [hX] at hX4 hs2 ⊢
  have HCOP := hide (show Cop w1.heap.size Z X4 #[.int .i64 t0, .int .i64 t1, .string t2, .slice B3 t3.length d3, .string t4, .slice B5 t5.length d5] ⟨t0, t1, t2, t3, t4, t5⟩ w1 w2 from ⟨b12, hX4, fun j x hj => by
    have hp : 0 < t5.length := by have := (List.getElem?_eq_some_iff.1 hj).1; exact Nat.lt_of_le_of_lt (Nat.zero_le _) this
    have h1 := (hkf Z (hZ hp).1 j x hj).u.below bw2
    rw [hX] at h1
    exact h1⟩)
  have HZ := hide hZ
  have HNW := hide b12.size
  have HW0 := hide (fun W (hW : Below w2.heap.size w2 W) => r_show ⟨t0, t1, t2, t3, t4, t5⟩ _ W (tt.below hW) HSM.out)
  have HW1 := hide (fun W (hW : Below w2.heap.size w2 W) => r_show ⟨t0, t1, t2, t3, t4, t5⟩ _ W (tc.below hW) HSM.out)
  have HS1_ := hide (fun W (hW : Below w2.heap.size w2 W) => c_same ⟨t0, t1, t2, t3, t4, t5⟩ ⟨t0, t1, t2, t3, t4, t5⟩ _ _ W (tt.below hW) (tc.below hW) HSM.out)
  have HC1 := hide (fun W (hW : Below w2.heap.size w2 W) => c_count ⟨t0, t1, t2, t3, t4, t5⟩ _ W (tc.below hW) HSM.out)
  have HC2 := hide (fun W (hW : Below w2.heap.size w2 W) => c_count ⟨t0, t1, t2, t3, t4, t5⟩ _ W (tt.below hW) HSM.out)
  rw [HP.out] at HW0 HW1
  rw [eq_refl] at HS1_
  rw [HM.out] at HC1 HC2
  dsimp only at HW0 HW1 HS1_ HC1 HC2
  have p0 := cell_of_row _ _ 0 _ _ _ x3
  have p1 := cell_of_row _ _ 1 _ _ _ x3
  have p2 := cell_of_row _ _ 2 _ _ _ x3
  have p3 := cell_of_row _ _ 3 _ _ _ x3
  have p4 := cell_of_row _ _ 4 _ _ _ x3
  have p5 := cell_of_row _ _ 5 _ _ _ x3
  have hx3 := x3
  have hx4 := hX4
  have HXX := hide (And.intro hx3 hx4)
  clear hd3 hf3 hR hrl hKL hkf tc b12 tt x3 hX hZ hX4 hs2 hw2 bw2 hx3 hx4 HRS HBB
  go_upto_region 4 with (go_at_call 15; (with_reducible refine (HW0.out _ (Below.refl _ _)).mono ?_); rintro e w3 ⟨rfl, b3⟩; have HB3 := hide b3; clear b3)
  clear p0 p1 p2 p3 p4 p5 HW0
  have HSS := hide (fun (W : World) (hW_ : Below w3.heap.size w3 W) => (show W.cell? ⟨X3, 0, none⟩ = some (.int .i64 t0) ∧ W.cell? ⟨X3, 1, none⟩ = some (.int .i64 t1) ∧ W.cell? ⟨X3, 2, none⟩ = some (.string t2) ∧ W.cell? ⟨X3, 3, none⟩ = some (.slice A3 t3.length c3) ∧ W.cell? ⟨X3, 4, none⟩ = some (.string t4) ∧ W.cell? ⟨X3, 5, none⟩ = some (.slice A5 t5.length c5) ∧ W.cell? ⟨X4, 0, none⟩ = some (.int .i64 t0) ∧ W.cell? ⟨X4, 1, none⟩ = some (.int .i64 t1) ∧ W.cell? ⟨X4, 2, none⟩ = some (.string t2) ∧ W.cell? ⟨X4, 3, none⟩ = some (.slice B3 t3.length d3) ∧ W.cell? ⟨X4, 4, none⟩ = some (.string t4) ∧ W.cell? ⟨X4, 5, none⟩ = some (.slice B5 t5.length d5) from by
    have hW := below_step HB3.out hW_
    have x3 := HXX.out.1
    have x4 := HXX.out.2
    exact ⟨cellW (cell_of_row _ _ 0 _ _ _ x3) hW, cellW (cell_of_row _ _ 1 _ _ _ x3) hW, cellW (cell_of_row _ _ 2 _ _ _ x3) hW, cellW (cell_of_row _ _ 3 _ _ _ x3) hW, cellW (cell_of_row _ _ 4 _ _ _ x3) hW, cellW (cell_of_row _ _ 5 _ _ _ x3) hW, cellW (cell_of_row _ _ 0 _ _ _ x4) hW, cellW (cell_of_row _ _ 1 _ _ _ x4) hW, cellW (cell_of_row _ _ 2 _ _ _ x4) hW, cellW (cell_of_row _ _ 3 _ _ _ x4) hW, cellW (cell_of_row _ _ 4 _ _ _ x4) hW, cellW (cell_of_row _ _ 5 _ _ _ x4) hW⟩))
  have HS1 := hide (fun (W : World) (hW : Below w3.heap.size w3 W) => HS1_.out W (below_step HB3.out hW))
  have HW1' := hide (fun (W : World) (hW : Below w3.heap.size w3 W) => HW1.out W (below_step HB3.out hW))
  have HC1' := hide (fun (W : World) (hW : Below w3.heap.size w3 W) => HC1.out W (below_step HB3.out hW))
  have HC2' := hide (fun (W : World) (hW : Below w3.heap.size w3 W) => HC2.out W (below_step HB3.out hW))
  clear HW1 HC1 HC2 HS1_
  have HW1 := HW1'
  have HC1 := HC1'
  have HC2 := HC2'
  clear HW1' HC1' HC2' HXX
  refine wp_region_held_drew (S := fun W => W.cell? ⟨X3, 0, none⟩ = some (.int .i64 t0) ∧ W.cell? ⟨X3, 1, none⟩ = some (.int .i64 t1) ∧ W.cell? ⟨X3, 2, none⟩ = some (.string t2) ∧ W.cell? ⟨X3, 3, none⟩ = some (.slice A3 t3.length c3) ∧ W.cell? ⟨X3, 4, none⟩ = some (.string t4) ∧ W.cell? ⟨X3, 5, none⟩ = some (.slice A5 t5.length c5) ∧ W.cell? ⟨X4, 0, none⟩ = some (.int .i64 t0) ∧ W.cell? ⟨X4, 1, none⟩ = some (.int .i64 t1) ∧ W.cell? ⟨X4, 2, none⟩ = some (.string t2) ∧ W.cell? ⟨X4, 3, none⟩ = some (.slice B3 t3.length d3) ∧ W.cell? ⟨X4, 4, none⟩ = some (.string t4) ∧ W.cell? ⟨X4, 5, none⟩ = some (.slice B5 t5.length d5)) (by kernel_rfl) (HSS.out _ (Below.drew (Below.refl _ _))) (fun hHeld => ?_)
  have b0 := Below.drew (Below.refl w3.heap.size w3)
  generalize w3.drew = wd at b0 hHeld ⊢
  refine wpAnyH_take (i := 0) (oi := ?o0x1) (v := ?v0x1) ?ho0x1 (by kernel_rfl) (by kernel_rfl) (by kernel_rfl) ?hQ0x1 (Or.inl ⟨?hw0x1, ?hy0x1⟩) (by assumption) ?_
  case ho0x1 => (simp only [List.getElem?_toArray, List.getElem?_cons_succ, List.getElem?_cons_zero]; try rfl)
  case hQ0x1 => exact fun _ _ _ h => h
  case hw0x1 => rfl
  case hy0x1 => (intro w hSw; (try dsimp only at hSw); go_simp; (first | done | (with_reducible rfl)))
  (try simp only [Act.put, List.setIfInBounds_toArray, List.set_cons_zero, List.set_cons_succ])
  refine wpAnyH_take (i := 1) (oi := ?o1x2) (v := ?v1x2) ?ho1x2 (by kernel_rfl) (by kernel_rfl) (by kernel_rfl) ?hQ1x2 (Or.inl ⟨?hw1x2, ?hy1x2⟩) (by assumption) ?_
  case ho1x2 => (simp only [List.getElem?_toArray, List.getElem?_cons_succ, List.getElem?_cons_zero]; try rfl)
  case hQ1x2 => exact fun _ _ _ h => h
  case hw1x2 => rfl
  case hy1x2 => (intro w hSw; (try dsimp only at hSw); go_simp; (first | done | (with_reducible rfl)))
  (try simp only [Act.put, List.setIfInBounds_toArray, List.set_cons_zero, List.set_cons_succ])
  refine wpAnyH_ready (rs := [2]) (by kernel_rfl) (by simp) ?_
  refine (AllReadyH.cons (i := 2) (o := ?o2y3) ?ho2y3 (fun K hK => ?_) AllReadyH.nil)
  case ho2y3 => (simp only [List.getElem?_toArray, List.getElem?_cons_succ, List.getElem?_cons_zero]; try rfl)
  go_simp
  go_at_call 12
  (with_reducible refine (HS1.out _ b0).mono ?_)
  rintro e wq3 ⟨rfl, bs3⟩
  have bq3 := below_step b0 bs3
  clear bs3
  refine hK.out _ _ (HSS.out _ bq3) (fun _ => ?_)
  clear hK K
  (try simp only [Act.put, List.setIfInBounds_toArray, List.set_cons_zero, List.set_cons_succ])
  refine wpAnyH_take (i := 3) (oi := ?o3x4) (v := ?v3x4) ?ho3x4 (by kernel_rfl) (by kernel_rfl) (by kernel_rfl) ?hQ3x4 (Or.inl ⟨?hw3x4, ?hy3x4⟩) (by assumption) ?_
  case ho3x4 => (simp only [List.getElem?_toArray, List.getElem?_cons_succ, List.getElem?_cons_zero]; try rfl)
  case hQ3x4 => exact fun _ _ _ h => h
  case hw3x4 => rfl
  case hy3x4 => (intro w hSw; (try dsimp only at hSw); go_simp; (first | done | (with_reducible rfl)))
  (try simp only [Act.put, List.setIfInBounds_toArray, List.set_cons_zero, List.set_cons_succ])
  refine wpAnyH_take (i := 4) (oi := ?o4x5) (v := ?v4x5) ?ho4x5 (by kernel_rfl) (by kernel_rfl) (by kernel_rfl) ?hQ4x5 (Or.inl ⟨?hw4x5, ?hy4x5⟩) (by assumption) ?_
  case ho4x5 => (simp only [List.getElem?_toArray, List.getElem?_cons_succ, List.getElem?_cons_zero]; try rfl)
  case hQ4x5 => exact fun _ _ _ h => h
  case hw4x5 => rfl
  case hy4x5 => (intro w hSw; (try dsimp only at hSw); go_simp; (first | done | (with_reducible rfl)))
  (try simp only [Act.put, List.setIfInBounds_toArray, List.set_cons_zero, List.set_cons_succ])
  refine wpAnyH_take (i := 5) (oi := ?o5x6) (v := ?v5x6) ?ho5x6 (by kernel_rfl) (by kernel_rfl) (by kernel_rfl) ?hQ5x6 (Or.inl ⟨?hw5x6, ?hy5x6⟩) (by assumption) ?_
  case ho5x6 => (simp only [List.getElem?_toArray, List.getElem?_cons_succ, List.getElem?_cons_zero]; try rfl)
  case hQ5x6 => exact fun _ _ _ h => h
  case hw5x6 => rfl
  case hy5x6 => (intro w hSw; (try dsimp only at hSw); go_simp; (first | done | (with_reducible rfl)))
  (try simp only [Act.put, List.setIfInBounds_toArray, List.set_cons_zero, List.set_cons_succ])
  refine wpAnyH_take (i := 7) (oi := ?o7x7) (v := ?v7x7) ?ho7x7 (by kernel_rfl) (by kernel_rfl) (by kernel_rfl) ?hQ7x7 (Or.inl ⟨?hw7x7, ?hy7x7⟩) (by assumption) ?_
  case ho7x7 => (simp only [List.getElem?_toArray, List.getElem?_cons_succ, List.getElem?_cons_zero]; try rfl)
  case hQ7x7 => exact fun _ _ _ h => h
  case hw7x7 => rfl
  case hy7x7 => (intro w hSw; (try dsimp only at hSw); go_simp; (first | done | (with_reducible rfl)))
  (try simp only [Act.put, List.setIfInBounds_toArray, List.set_cons_zero, List.set_cons_succ])
  refine wpAnyH_ready (rs := [6]) (by kernel_rfl) (by simp) ?_
  refine (AllReadyH.cons (i := 6) (o := ?o6y8) ?ho6y8 (fun K hK => ?_) AllReadyH.nil)
  case ho6y8 => (simp only [List.getElem?_toArray, List.getElem?_cons_succ, List.getElem?_cons_zero]; try rfl)
  go_simp
  go_at_call 15
  (with_reducible refine (HW1.out _ bq3).mono ?_)
  rintro e wq8 ⟨rfl, bs8⟩
  have bq8 := below_step bq3 bs8
  clear bs8
  refine hK.out _ _ (HSS.out _ bq8) (fun _ => ?_)
  clear hK K
  (try simp only [Act.put, List.setIfInBounds_toArray, List.set_cons_zero, List.set_cons_succ])
  refine wpAnyH_take (i := 8) (oi := ?o8x9) (v := ?v8x9) ?ho8x9 (by kernel_rfl) (by kernel_rfl) (by kernel_rfl) ?hQ8x9 (Or.inl ⟨?hw8x9, ?hy8x9⟩) (by assumption) ?_
  case ho8x9 => (simp only [List.getElem?_toArray, List.getElem?_cons_succ, List.getElem?_cons_zero]; try rfl)
  case hQ8x9 => exact fun _ _ _ h => h
  case hw8x9 => rfl
  case hy8x9 => (intro w hSw; (try dsimp only at hSw); go_simp; (first | done | (with_reducible rfl)))
  (try simp only [Act.put, List.setIfInBounds_toArray, List.set_cons_zero, List.set_cons_succ])
  refine wpAnyH_take (i := 9) (oi := ?o9x10) (v := ?v9x10) ?ho9x10 (by kernel_rfl) (by kernel_rfl) (by kernel_rfl) ?hQ9x10 (Or.inl ⟨?hw9x10, ?hy9x10⟩) (by assumption) ?_
  case ho9x10 => (simp only [List.getElem?_toArray, List.getElem?_cons_succ, List.getElem?_cons_zero]; try rfl)
  case hQ9x10 => exact fun _ _ _ h => h
  case hw9x10 => rfl
  case hy9x10 => (intro w hSw; (try dsimp only at hSw); go_simp; (first | done | (with_reducible rfl)))
  (try simp only [Act.put, List.setIfInBounds_toArray, List.set_cons_zero, List.set_cons_succ])
  refine wpAnyH_take (i := 10) (oi := ?o10x11) (v := ?v10x11) ?ho10x11 (by kernel_rfl) (by kernel_rfl) (by kernel_rfl) ?hQ10x11 (Or.inl ⟨?hw10x11, ?hy10x11⟩) (by assumption) ?_
  case ho10x11 => (simp only [List.getElem?_toArray, List.getElem?_cons_succ, List.getElem?_cons_zero]; try rfl)
  case hQ10x11 => exact fun _ _ _ h => h
  case hw10x11 => rfl
  case hy10x11 => (intro w hSw; (try dsimp only at hSw); go_simp; (first | done | (with_reducible rfl)))
  (try simp only [Act.put, List.setIfInBounds_toArray, List.set_cons_zero, List.set_cons_succ])
  refine wpAnyH_take (i := 11) (oi := ?o11x12) (v := ?v11x12) ?ho11x12 (by kernel_rfl) (by kernel_rfl) (by kernel_rfl) ?hQ11x12 (Or.inl ⟨?hw11x12, ?hy11x12⟩) (by assumption) ?_
  case ho11x12 => (simp only [List.getElem?_toArray, List.getElem?_cons_succ, List.getElem?_cons_zero]; try rfl)
  case hQ11x12 => exact fun _ _ _ h => h
  case hw11x12 => rfl
  case hy11x12 => (intro w hSw; (try dsimp only at hSw); go_simp; (first | done | (with_reducible rfl)))
  (try simp only [Act.put, List.setIfInBounds_toArray, List.set_cons_zero, List.set_cons_succ])
  refine wpAnyH_take (i := 13) (oi := ?o13x13) (v := ?v13x13) ?ho13x13 (by kernel_rfl) (by kernel_rfl) (by kernel_rfl) ?hQ13x13 (Or.inl ⟨?hw13x13, ?hy13x13⟩) (by assumption) ?_
  case ho13x13 => (simp only [List.getElem?_toArray, List.getElem?_cons_succ, List.getElem?_cons_zero]; try rfl)
  case hQ13x13 => exact fun _ _ _ h => h
  case hw13x13 => rfl
  case hy13x13 => (intro w hSw; (try dsimp only at hSw); go_simp; (first | done | (with_reducible rfl)))
  (try simp only [Act.put, List.setIfInBounds_toArray, List.set_cons_zero, List.set_cons_succ])
  refine wpAnyH_ready (rs := [12]) (by kernel_rfl) (by simp) ?_
  refine (AllReadyH.cons (i := 12) (o := ?o12y14) ?ho12y14 (fun K hK => ?_) AllReadyH.nil)
  case ho12y14 => (simp only [List.getElem?_toArray, List.getElem?_cons_succ, List.getElem?_cons_zero]; try rfl)
  go_simp
  go_at_call 11
  (with_reducible refine (HC1.out _ bq8).mono ?_)
  rintro e wq14 ⟨rfl, bs14⟩
  have bq14 := below_step bq8 bs14
  clear bs14
  refine hK.out _ _ (HSS.out _ bq14) (fun _ => ?_)
  clear hK K
  (try simp only [Act.put, List.setIfInBounds_toArray, List.set_cons_zero, List.set_cons_succ])
  refine wpAnyH_ready (rs := [14]) (by kernel_rfl) (by simp) ?_
  refine (AllReadyH.cons (i := 14) (o := ?o14y15) ?ho14y15 (fun K hK => ?_) AllReadyH.nil)
  case ho14y15 => (simp only [List.getElem?_toArray, List.getElem?_cons_succ, List.getElem?_cons_zero]; try rfl)
  go_simp
  go_at_call 11
  (with_reducible refine (HC2.out _ bq14).mono ?_)
  rintro e wq15 ⟨rfl, bs15⟩
  have bq15 := below_step bq14 bs15
  clear bs15
  refine hK.out _ _ (HSS.out _ bq15) (fun _ => ?_)
  clear hK K
  (try simp only [Act.put, List.setIfInBounds_toArray, List.set_cons_zero, List.set_cons_succ])
  refine wpAnyH_take (i := 15) (oi := ?o15x16) (v := ?v15x16) ?ho15x16 (by kernel_rfl) (by kernel_rfl) (by kernel_rfl) ?hQ15x16 (Or.inl ⟨?hw15x16, ?hy15x16⟩) (by assumption) ?_
  case ho15x16 => (simp only [List.getElem?_toArray, List.getElem?_cons_succ, List.getElem?_cons_zero]; try rfl)
  case hQ15x16 => exact fun _ _ _ h => h
  case hw15x16 => rfl
  case hy15x16 => (intro w hSw; (try dsimp only at hSw); go_simp; (first | done | (with_reducible rfl)))
  (try simp only [Act.put, List.setIfInBounds_toArray, List.set_cons_zero, List.set_cons_succ])
  refine wpAnyH_take (i := 16) (oi := ?o16x17) (v := ?v16x17) ?ho16x17 (by kernel_rfl) (by kernel_rfl) (by kernel_rfl) ?hQ16x17 (Or.inl ⟨?hw16x17, ?hy16x17⟩) (by assumption) ?_
  case ho16x17 => (simp only [List.getElem?_toArray, List.getElem?_cons_succ, List.getElem?_cons_zero]; try rfl)
  case hQ16x17 => exact fun _ _ _ h => h
  case hw16x17 => rfl
  case hy16x17 => (intro w hSw; (try dsimp only at hSw); go_simp; (first | done | (with_reducible rfl)))
  (try simp only [Act.put, List.setIfInBounds_toArray, List.set_cons_zero, List.set_cons_succ])
  refine wpAnyH_done (by kernel_rfl) ?_ _
  have HCP := hide (HCOP.out.below HNW.out (below_step HB3.out bq15))
  clear hHeld HSS HS1 HW1 HC1 HC2 HB3
  clear b0
  go_wp2_with fail
  go_loopg [6, 7, 8] t5.length (fun g i _ _ wr => ∃ c : Nat, c + g = t5.length ∧ i = .int .i64 (c : Int) ∧ Aside0 (Cop w1.heap.size Z X4 #[.int .i64 t0, .int .i64 t1, .string t2, .slice B3 t3.length d3, .string t4, .slice B5 t5.length d5] ⟨t0, t1, t2, t3, t4, t5⟩ w1 wr))
  case atStart => exact ⟨0, by omega, rfl, ⟨HCP.out⟩⟩
  case round =>
    clear HCP HCOP HNW
    obtain ⟨i, hig, rfl, hin⟩ := hrel
    have hcop := hin.out
    clear hin
    by_cases hi : i < t5.length
    · obtain ⟨eB, hZN, hZX⟩ := HZ.out (by omega)
      subst eB
      have HNZ := hide hZN
      have HZX := hide hZX
      have HIG := hide hig
      have HI := hide hi
      obtain ⟨x, hx⟩ : ∃ x, t5[i]? = some x := ⟨_, List.getElem?_eq_getElem hi⟩
      have HX := hide hx
      obtain ⟨hb3, hb5, hbn⟩ := kid_small HSM.out hx
      have HBD := hide (And.intro hb3 (And.intro hb5 hbn))
      clear hb3 hb5 hbn
      have j0 : (0 : Int) ≤ (i : Int) := by omega
      have j1 : (i : Int) < (t5.length : Int) := by omega
      have y5 := cell_of_row _ _ 5 _ _ _ hcop.bx
      obtain ⟨⟨u2, k2⟩, fz⟩ := (hcop.kid i x hx).cell 2 (by omega)
      have f2 := fz (i * 6 + 2)
      have HCA := hide (hcop.set (b := Z) (o := i * 6 + 2) (.string ⟨#[116, 117, 114, 110, 101, 100]⟩) hZN hZX (fun _ => by omega))
      clear hcop fz hig hi hx hZN hZX
      go_upto_region 10 with fail
      clear y5 k2 f2
      generalize wr.setCell ⟨Z, i * 6 + 2, none⟩ (.string ⟨#[116, 117, 114, 110, 101, 100]⟩) = wA at HCA ⊢
      have hcop := HCA.out
      have y5 := cell_of_row _ _ 5 _ _ _ hcop.bx
      obtain ⟨⟨u4, k4⟩, fz⟩ := (hcop.kid i x HX.out).cell 4 (by omega)
      have f4 := fz (i * 6 + 4)
      have HCB := hide (hcop.set (b := Z) (o := i * 6 + 4) (.string ⟨#[116, 117, 114, 110, 101, 100]⟩) HNZ.out HZX.out (fun _ => by omega))
      clear hcop fz HCA
      go_upto_region 11 with fail
      clear y5 k4 f4
      generalize wA.setCell ⟨Z, i * 6 + 4, none⟩ (.string ⟨#[116, 117, 114, 110, 101, 100]⟩) = wB at HCB ⊢
      go_wp2_with fail
      go_loopg [7] x.f5.length (fun g k wr => ∃ c : Nat, c + g = x.f5.length ∧ k = .int .i64 (c : Int) ∧ Aside0 (Cop w1.heap.size Z X4 #[.int .i64 t0, .int .i64 t1, .string t2, .slice B3 t3.length d3, .string t4, .slice (some ⟨Z, 0, none⟩) t5.length d5] ⟨t0, t1, t2, t3, t4, t5⟩ w1 wr))
      case atStart => exact ⟨0, by omega, rfl, ⟨HCB.out⟩⟩
      case round =>
        clear HCB
        obtain ⟨c, hcg, rfl, hin⟩ := hrel
        have hcop := hin.out
        clear hin
        obtain ⟨K3, k3, K5, k5, -, z3, z5, r3, r5⟩ := hcop.kid i x HX.out
        have y5 := cell_of_row _ _ 5 _ _ _ hcop.bx
        by_cases hc : c < x.f5.length
        · obtain ⟨g, rfl, hgN, hgU, hgZ, hcl, hfz⟩ := r5.cell hc
          obtain ⟨v0, e0⟩ := hcl 0 (by omega)
          obtain ⟨v1, e1⟩ := hcl 1 (by omega)
          obtain ⟨v2, e2⟩ := hcl 2 (by omega)
          obtain ⟨v3, e3⟩ := hcl 3 (by omega)
          obtain ⟨v4, e4⟩ := hcl 4 (by omega)
          obtain ⟨v5, e5⟩ := hcl 5 (by omega)
          rw [Nat.add_zero] at e0
          have g0 := hfz (c * 6)
          have g1 := hfz (c * 6 + 1)
          have g2 := hfz (c * 6 + 2)
          have g3 := hfz (c * 6 + 3)
          have g4 := hfz (c * 6 + 4)
          have g5 := hfz (c * 6 + 5)
          have q0 : (0 : Int) ≤ (c : Int) := by omega
          have q1 : (c : Int) < (x.f5.length : Int) := by omega
          have HN6 := hide ((((((hcop.set (b := g) (o := c * 6) (.int .i64 0) hgN hgU (fun e => absurd e hgZ)).set (b := g) (o := c * 6 + 1) (.int .i64 0) hgN hgU (fun e => absurd e hgZ)).set (b := g) (o := c * 6 + 2) (.string ⟨#[]⟩) hgN hgU (fun e => absurd e hgZ)).set (b := g) (o := c * 6 + 3) (.slice none 0 0) hgN hgU (fun e => absurd e hgZ)).set (b := g) (o := c * 6 + 4) (.string ⟨#[]⟩) hgN hgU (fun e => absurd e hgZ)).set (b := g) (o := c * 6 + 5) (.slice none 0 0) hgN hgU (fun e => absurd e hgZ))
          have HCG := hide hcg
          have HC := hide hc
          clear hcop r3 r5 hcl hfz hgN hgU hgZ hcg hc z3
          go_wp2_with fail
          have hcg := HCG.out
          have hc := HC.out
          have hbd := HBD.out.2.1
          go_roundg (gk - 1)
          case measure => omega
          case rel => exact ⟨c + 1, by omega, by rw [show wrap64 ((c : Int) + 1) = ((c + 1 : Nat) : Int) from by rw [IntWalk.wrap64_in _ (by omega)]; rfl], ⟨HN6.out⟩⟩
        · have hnc : ¬ (c : Int) < (x.f5.length : Int) := by omega
          have HCC := hide hcop
          clear hcop r3 r5 hcg hc z3
          go_wp2_with fail
          clear y5 z5 hnc
          go_loopg [8] x.f3.length (fun g k wr => ∃ c : Nat, c + g = x.f3.length ∧ k = .int .i64 (c : Int) ∧ Aside0 (Cop w1.heap.size Z X4 #[.int .i64 t0, .int .i64 t1, .string t2, .slice B3 t3.length d3, .string t4, .slice (some ⟨Z, 0, none⟩) t5.length d5] ⟨t0, t1, t2, t3, t4, t5⟩ w1 wr))
          case atStart => exact ⟨0, by omega, rfl, ⟨HCC.out⟩⟩
          case round =>
            clear HCC
            obtain ⟨c2, hcg, rfl, hin⟩ := hrel
            have hcop := hin.out
            clear hin
            obtain ⟨L3, l3, L5, l5, -, z3, z5, r3, r5⟩ := hcop.kid i x HX.out
            have y5 := cell_of_row _ _ 5 _ _ _ hcop.bx
            by_cases hc : c2 < x.f3.length
            · obtain ⟨g, rfl, hgN, hgU, hgZ, hcl, hfz⟩ := r3.cell hc
              obtain ⟨v1, e1⟩ := hcl 1 (by omega)
              have g1 := hfz (c2 * 2 + 1)
              have q0 : (0 : Int) ≤ (c2 : Int) := by omega
              have q1 : (c2 : Int) < (x.f3.length : Int) := by omega
              have HN6 := hide (hcop.set (b := g) (o := c2 * 2 + 1) (.string ⟨#[116, 117, 114, 110, 101, 100]⟩) hgN hgU (fun e => absurd e hgZ))
              have HCG := hide hcg
              have HC := hide hc
              clear hcop r3 r5 hcl hfz hgN hgU hgZ hcg hc z5
              go_wp2_with fail
              have hcg := HCG.out
              have hc := HC.out
              have hbd := HBD.out.1
              go_roundg (gk - 1)
              case measure => omega
              case rel => exact ⟨c2 + 1, by omega, by rw [show wrap64 ((c2 : Int) + 1) = ((c2 + 1 : Nat) : Int) from by rw [IntWalk.wrap64_in _ (by omega)]; rfl], ⟨HN6.out⟩⟩
            · have hnc : ¬ (c2 : Int) < (x.f3.length : Int) := by omega
              have HCC := hide hcop
              clear hcop r3 r5 hcg hc z5
              go_wp2_with fail
              have hig := HIG.out
              have hi := HI.out
              have hbd := HBD.out.2.2
              go_roundg (t5.length - (i + 1))
              case measure => omega
              case rel => exact ⟨i + 1, by omega, by rw [show wrap64 ((i : Int) + 1) = ((i + 1 : Nat) : Int) from by rw [IntWalk.wrap64_in _ (by omega)]; rfl], ⟨HCC.out⟩⟩
    · have hni : ¬ (i : Int) < (t5.length : Int) := by omega
      have y5 := cell_of_row _ _ 5 _ _ _ hcop.bx
      have hlow := hcop.low
      have x3 := (hlow.block X3 (blk_lt HX3.out)).trans HX3.out
      have tv := HT1.out.now.below hlow
      have HBW := hide (below_step HB1.out hlow)
      have HWT := hide (fun W (hW : Below wr.heap.size wr W) => r_show ⟨t0, t1, t2, t3, t4, t5⟩ _ W (tv.below hW) HSM.out)
      have HWC := hide (fun W (hW : Below wr.heap.size wr W) => c_show ⟨t0, t1, t2, t3, t4, t5⟩ _ W (tv.below hW) HSM.out)
      rw [HP.out] at HWT HWC
      have b0 := Below.refl wr.heap.size wr
      have p0 := cell_of_row _ _ 0 _ _ _ x3
      have p1 := cell_of_row _ _ 1 _ _ _ x3
      have p2 := cell_of_row _ _ 2 _ _ _ x3
      have p3 := cell_of_row _ _ 3 _ _ _ x3
      have p4 := cell_of_row _ _ 4 _ _ _ x3
      have p5 := cell_of_row _ _ 5 _ _ _ x3
      clear hcop hlow x3 tv hig hi
      go_wp2_with (first | (go_at_call 15; (with_reducible refine (HWT.out _ b0).mono ?_); rintro e wx ⟨rfl, bx⟩; have by1 := below_step b0 bx; have p0_1 := cellW p0 by1; have p1_1 := cellW p1 by1; have p2_1 := cellW p2 by1; have p3_1 := cellW p3 by1; have p4_1 := cellW p4 by1; have p5_1 := cellW p5 by1) | (go_at_call 10; (with_reducible refine (HWC.out _ by1).mono ?_); rintro e wy ⟨rfl, bz⟩; have by2 := below_step by1 bz) | (go_at_call 13; (with_reducible refine (known _).mono ?_); rintro e wk ⟨rfl, bk⟩; have by3 := below_step by2 bk))
      go_ret
      exact ⟨rfl, below_step HBW.out by3⟩
/-- The law, as its row calls it. -/
theorem copies (A : Option Addr) (c : Nat) (l : List S30) (w : World) (hl : k30.C w A l.length l ∧ l.length ≤ c) : Calls Try.prog 4 #[.slice A l.length c] w fun e w' => e = .returned (.bool true) ∧ Below w.heap.size w w' := treeCopies l A c w hl.1 hl.2
end Go.Proofs.Ytaponaemgolmoaa.Tr
