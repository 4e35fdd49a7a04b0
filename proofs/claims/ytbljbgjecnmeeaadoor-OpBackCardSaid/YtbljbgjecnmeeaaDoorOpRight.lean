/- The walk of op.Right, over those of op.asked and op.Same. -/
import Derived.Test.YtbljbgjecnmeeaaDoorOpAsked
namespace Go.Proofs.YtbljbgjecnmeeaaDoor.OpP
open Go.RowKit Go.Proofs.YtbljbgjecnmeeaaDoor.POpTells Go.Proofs.YtbljbgjecnmeeaaDoorW.PrintWords Go.Proofs.YtbljbgjecnmeeaaDoorW.PrintLast
set_option linter.unusedVariables false
set_option linter.unusedSimpArgs false
/-- What asked hands back. -/
def AskedP (o : S24) (w : World) (e : Ending) (w' : World) : Prop := ∃ (A' : Option Addr) (c' : Nat), e = .returned (.tuple #[.agg #[.int .i64 (askedL o).f0, .int .i64 (askedL o).f1, .int .i64 (askedL o).f2, .int .i64 (askedL o).f3, .int .i64 (askedL o).f4, .int .i64 (askedL o).f5, .string (askedL o).f6, .slice A' (askedL o).f7.length c', .string (askedL o).f8], .bool (kindB o.f0)]) ∧ (askedL o).f7.length ≤ c' ∧ k32.C w A' (askedL o).f7.length (askedL o).f7 ∧ Below w.heap.size w w'
theorem asked (o : S24) (A : Option Addr) (c : Nat) (w : World) (hC : k32.C w A o.f7.length o.f7) (hl : o.f7.length ≤ c) :
    Calls Tryd.prog 24 #[.agg #[.int .i64 o.f0, .int .i64 o.f1, .int .i64 o.f2, .int .i64 o.f3, .int .i64 o.f4, .int .i64 o.f5, .string o.f6, .slice A o.f7.length c, .string o.f8]] w (AskedP o w) := by
  obtain ⟨o0, o1, o2, o3, o4, o5, o6, o7, o8⟩ := o
  dsimp only at hC hl ⊢
  by_cases hk : kindB o0 = false
  · refine (asked0 o0 hk o1 o2 o3 o4 o5 o6 A o7.length c o8 w).mono ?_
    rintro e w' ⟨rfl, hb⟩
    have hr : askedL ⟨o0, o1, o2, o3, o4, o5, o6, o7, o8⟩ = ⟨o0, 0, 0, 0, 0, 0, ⟨#[]⟩, [], ⟨#[]⟩⟩ := by
      have hkk : ¬ (1 ≤ o0 ∧ o0 ≤ 11) := by intro h; unfold kindB at hk; simp at hk; omega
      unfold askedL
      dsimp only
      rw [if_neg (by omega), if_neg (by omega), if_neg (by omega), if_neg (by omega), if_neg (by omega), if_neg (by omega), if_neg (by omega), if_neg (by omega), if_neg (by omega)]
    unfold AskedP
    rw [hr]
    exact ⟨none, 0, by rw [hk]; rfl, Nat.le_refl _, Kd.C_nil _ _, hb⟩
  · have hkk : 1 ≤ o0 ∧ o0 ≤ 11 := by unfold kindB at hk; simp at hk; omega
    rcases (show o0 = 1 ∨ o0 = 2 ∨ o0 = 3 ∨ o0 = 4 ∨ o0 = 5 ∨ o0 = 6 ∨ o0 = 7 ∨ o0 = 8 ∨ o0 = 9 ∨ o0 = 10 ∨ o0 = 11 from by omega) with rfl | rfl | rfl | rfl | rfl | rfl | rfl | rfl | rfl | rfl | rfl
    · refine (asked1 o1 o2 o3 o4 o5 o6 A o7.length c o8 w).mono ?_
      rintro e w' ⟨rfl, hb⟩
      exact ⟨A, c, rfl, hl, hC, hb⟩
    · refine (asked2 o1 o2 o3 o4 o5 o6 A o7.length c o8 w).mono ?_
      rintro e w' ⟨rfl, hb⟩
      exact ⟨none, 0, rfl, Nat.le_refl _, Kd.C_nil _ _, hb⟩
    · refine (asked3 o1 o2 o3 o4 o5 o6 A o7.length c o8 w).mono ?_
      rintro e w' ⟨rfl, hb⟩
      exact ⟨none, 0, rfl, Nat.le_refl _, Kd.C_nil _ _, hb⟩
    · refine (asked4 o1 o2 o3 o4 o5 o6 A o7.length c o8 w).mono ?_
      rintro e w' ⟨rfl, hb⟩
      exact ⟨none, 0, rfl, Nat.le_refl _, Kd.C_nil _ _, hb⟩
    · refine (asked5 o1 o2 o3 o4 o5 o6 A o7.length c o8 w).mono ?_
      rintro e w' ⟨rfl, hb⟩
      exact ⟨none, 0, rfl, Nat.le_refl _, Kd.C_nil _ _, hb⟩
    · refine (asked6 o1 o2 o3 o4 o5 o6 A o7.length c o8 w).mono ?_
      rintro e w' ⟨rfl, hb⟩
      exact ⟨none, 0, rfl, Nat.le_refl _, Kd.C_nil _ _, hb⟩
    · refine (asked7 o1 o2 o3 o4 o5 o6 A o7.length c o8 w).mono ?_
      rintro e w' ⟨rfl, hb⟩
      exact ⟨none, 0, rfl, Nat.le_refl _, Kd.C_nil _ _, hb⟩
    · refine (asked8 o1 o2 o3 o4 o5 o6 A o7.length c o8 w).mono ?_
      rintro e w' ⟨rfl, hb⟩
      exact ⟨none, 0, rfl, Nat.le_refl _, Kd.C_nil _ _, hb⟩
    · refine (asked9 o1 o2 o3 o4 o5 o6 A o7.length c o8 w).mono ?_
      rintro e w' ⟨rfl, hb⟩
      exact ⟨none, 0, rfl, Nat.le_refl _, Kd.C_nil _ _, hb⟩
    · refine (asked10 o1 o2 o3 o4 o5 o6 A o7.length c o8 w).mono ?_
      rintro e w' ⟨rfl, hb⟩
      exact ⟨A, c, rfl, hl, hC, hb⟩
    · refine (asked11 o1 o2 o3 o4 o5 o6 A o7.length c o8 w).mono ?_
      rintro e w' ⟨rfl, hb⟩
      exact ⟨none, 0, rfl, Nat.le_refl _, Kd.C_nil _ _, hb⟩
set_option maxHeartbeats 8000000 in
set_option maxRecDepth 100000 in
theorem right (o : S24) (A : Option Addr) (c : Nat) (w : World) (hC : k32.C w A o.f7.length o.f7) (hl : o.f7.length ≤ c) :
    Calls Tryd.prog 8 #[.agg #[.int .i64 o.f0, .int .i64 o.f1, .int .i64 o.f2, .int .i64 o.f3, .int .i64 o.f4, .int .i64 o.f5, .string o.f6, .slice A o.f7.length c, .string o.f8]] w fun e w' => e = .returned (.bool (rightB o)) ∧ Below w.heap.size w w' := by
  obtain ⟨r, hr⟩ : ∃ r, rightB o = r := ⟨_, rfl⟩
  rw [hr]
  unfold rightB at hr
  have hmx := hC.2.1
  have HAK := hide (fun w1 (hb : Below w.heap.size w w1) => asked o A c w1 (Kd.C_below hC hb) hl)
  have HSM := hide (fun (x : S24) (hx : x = askedL o) (A' : Option Addr) (c' : Nat) (W : World) (hb : Below w.heap.size w W) (h1 : x.f7.length ≤ c') (h2 : k32.C W A' x.f7.length x.f7) => op_Same.calls (x.f7.length + 1) x.f0 x.f1 x.f2 x.f3 x.f4 x.f5 x.f6 A' c' x.f7 x.f8 o.f0 o.f1 o.f2 o.f3 o.f4 o.f5 o.f6 A c o.f7 o.f8 (sameB x o) W h2 h1 (Kd.C_below hC hb) hl (same_some x o (by have := h2.2.1; unfold maxLen at this; omega)))
  obtain ⟨s, hs⟩ : ∃ s, sameB (askedL o) o = s := ⟨_, rfl⟩
  obtain ⟨⟨x0, x1, x2, x3, x4, x5, x6, x7, x8⟩, hx⟩ : ∃ x, askedL o = x := ⟨_, rfl⟩
  rw [hs] at hr
  unfold AskedP at HAK
  rw [hx] at HAK hs
  rw [hx] at HSM
  have HSM2 := hide (fun (A' : Option Addr) (c' : Nat) (W : World) (hb : Below w.heap.size w W) (h1 : x7.length ≤ c') (h2 : k32.C W A' x7.length x7) => HSM.out ⟨x0, x1, x2, x3, x4, x5, x6, x7, x8⟩ rfl A' c' W hb h1 h2)
  obtain ⟨o0, o1, o2, o3, o4, o5, o6, o7, o8⟩ := o
  dsimp only at hr HAK HSM2 hs ⊢
  rw [hs] at HSM2
  have HN1 := hide (fun W => op_number.calls o1 (numB o1) W (num_some o1))
  have HN2 := hide (fun W => op_number.calls o2 (numB o2) W (num_some o2))
  have HN3 := hide (fun W => op_number.calls o3 (numB o3) W (num_some o3))
  obtain ⟨kb, hkb⟩ : ∃ b, kindB o0 = b := ⟨_, rfl⟩
  obtain ⟨n1, hn1⟩ : ∃ b, numB o1 = b := ⟨_, rfl⟩
  obtain ⟨n2, hn2⟩ : ∃ b, numB o2 = b := ⟨_, rfl⟩
  obtain ⟨n3, hn3⟩ : ∃ b, numB o3 = b := ⟨_, rfl⟩
  rw [hkb] at HAK hr
  rw [hn1] at HN1 hr
  rw [hn2] at HN2 hr
  rw [hn3] at HN3 hr
  clear hs hx hkb hn1 hn2 hn3 HSM hC hl hmx
  have hX := heap_alloc_new w (.cells #[.int .i64 o0, .int .i64 o1, .int .i64 o2, .int .i64 o3, .int .i64 o4, .int .i64 o5, .string o6, .slice A o7.length c, .string o8] 24)
  have b1 := below_alloc (Below.refl w.heap.size w) (.cells #[.int .i64 o0, .int .i64 o1, .int .i64 o2, .int .i64 o3, .int .i64 o4, .int .i64 o5, .string o6, .slice A o7.length c, .string o8] 24)
  obtain ⟨w1, hw1⟩ : ∃ w1, w.alloc (.cells #[.int .i64 o0, .int .i64 o1, .int .i64 o2, .int .i64 o3, .int .i64 o4, .int .i64 o5, .string o6, .slice A o7.length c, .string o8] 24) = w1 := ⟨_, rfl⟩
  have hs1 : w1.heap.size = w.heap.size + 1 := by rw [← hw1]; simp
  rw [hw1] at hX b1
  have HR := hide hr
  have HX := hide hX
  have HB := hide b1
  have HW1 := hide hw1
  have HS1 := hide hs1
  clear hr hX b1 hw1 hs1
  go_enter Tryd.func8, Tryd.ntmps8
  go_wp2_with fail
  rw [HW1.out]
  refine (HAK.out w1 HB.out).mono ?_
  rintro e w2 ⟨A', c', rfl, hl', hC', hb2⟩
  dsimp only
  have hX2 := (hb2.block _ (blk_lt HX.out)).trans HX.out
  have bb2 := below_step HB.out hb2
  have hn := heap_alloc_new w2 (.cells #[.int .i64 x0, .int .i64 x1, .int .i64 x2, .int .i64 x3, .int .i64 x4, .int .i64 x5, .string x6, .slice A' x7.length c', .string x8] 24)
  have b3 := below_alloc (Below.refl w2.heap.size w2) (.cells #[.int .i64 x0, .int .i64 x1, .int .i64 x2, .int .i64 x3, .int .i64 x4, .int .i64 x5, .string x6, .slice A' x7.length c', .string x8] 24)
  obtain ⟨w3, hw3⟩ : ∃ w3, w2.alloc (.cells #[.int .i64 x0, .int .i64 x1, .int .i64 x2, .int .i64 x3, .int .i64 x4, .int .i64 x5, .string x6, .slice A' x7.length c', .string x8] 24) = w3 := ⟨_, rfl⟩
  rw [hw3] at hn b3
  have hX3 := (b3.block _ (blk_lt hX2)).trans hX2
  have bb3 := below_step bb2 b3
  have HX3 := hide hX3
  have HN := hide hn
  have HB3 := hide bb3
  have HC3 := hide (Kd.C_below hC' (below_step hb2 b3))
  have HL' := hide hl'
  have HW3 := hide hw3
  have HS2 := hide bb2.size
  obtain ⟨g, hg⟩ : ∃ g, w2.heap.size = g := ⟨_, rfl⟩
  rw [hg] at HN HS2
  have HG := hide hg
  clear hX2 bb2 hn b3 hX3 bb3 hC' hl' hw3 hb2 hg HAK HX HB
  have cX0 : w3.cell? ⟨w.heap.size, 0, none⟩ = some (.int .i64 o0) := cell_of_row _ _ 0 _ _ _ HX3.out
  have cX1 : w3.cell? ⟨w.heap.size, 1, none⟩ = some (.int .i64 o1) := cell_of_row _ _ 1 _ _ _ HX3.out
  have cX2 : w3.cell? ⟨w.heap.size, 2, none⟩ = some (.int .i64 o2) := cell_of_row _ _ 2 _ _ _ HX3.out
  have cX3 : w3.cell? ⟨w.heap.size, 3, none⟩ = some (.int .i64 o3) := cell_of_row _ _ 3 _ _ _ HX3.out
  have cX4 : w3.cell? ⟨w.heap.size, 4, none⟩ = some (.int .i64 o4) := cell_of_row _ _ 4 _ _ _ HX3.out
  have cX5 : w3.cell? ⟨w.heap.size, 5, none⟩ = some (.int .i64 o5) := cell_of_row _ _ 5 _ _ _ HX3.out
  have cX6 : w3.cell? ⟨w.heap.size, 6, none⟩ = some (.string o6) := cell_of_row _ _ 6 _ _ _ HX3.out
  have cX7 : w3.cell? ⟨w.heap.size, 7, none⟩ = some (.slice A o7.length c) := cell_of_row _ _ 7 _ _ _ HX3.out
  have cX8 : w3.cell? ⟨w.heap.size, 8, none⟩ = some (.string o8) := cell_of_row _ _ 8 _ _ _ HX3.out
  have cN0 : w3.cell? ⟨g, 0, none⟩ = some (.int .i64 x0) := cell_of_row _ _ 0 _ _ _ HN.out
  have cN1 : w3.cell? ⟨g, 1, none⟩ = some (.int .i64 x1) := cell_of_row _ _ 1 _ _ _ HN.out
  have cN2 : w3.cell? ⟨g, 2, none⟩ = some (.int .i64 x2) := cell_of_row _ _ 2 _ _ _ HN.out
  have cN3 : w3.cell? ⟨g, 3, none⟩ = some (.int .i64 x3) := cell_of_row _ _ 3 _ _ _ HN.out
  have cN4 : w3.cell? ⟨g, 4, none⟩ = some (.int .i64 x4) := cell_of_row _ _ 4 _ _ _ HN.out
  have cN5 : w3.cell? ⟨g, 5, none⟩ = some (.int .i64 x5) := cell_of_row _ _ 5 _ _ _ HN.out
  have cN6 : w3.cell? ⟨g, 6, none⟩ = some (.string x6) := cell_of_row _ _ 6 _ _ _ HN.out
  have cN7 : w3.cell? ⟨g, 7, none⟩ = some (.slice A' x7.length c') := cell_of_row _ _ 7 _ _ _ HN.out
  have cN8 : w3.cell? ⟨g, 8, none⟩ = some (.string x8) := cell_of_row _ _ 8 _ _ _ HN.out
  go_upto_region 2 with fail
  rw [HW3.out, HG.out]
  cases kb with
  | false =>
    go_wp2_with fail
    have hr := HR.out
    simp only [Bool.false_and, Bool.true_and, Bool.and_false] at hr
    subst hr
    go_ret
    exact ⟨rfl, HB3.out⟩
  | true =>
    go_wp2_with fail
    refine (HSM2.out A' c' w3 HB3.out HL'.out HC3.out).mono ?_
    rintro e w4 ⟨rfl, hb4⟩
    dsimp only
    have hX4 := (hb4.block _ (blk_lt HX3.out)).trans HX3.out
    have HB4 := hide (below_step HB3.out hb4)
    clear hb4
    have cY0 : w4.cell? ⟨w.heap.size, 0, none⟩ = some (.int .i64 o0) := cell_of_row _ _ 0 _ _ _ hX4
    have cY1 : w4.cell? ⟨w.heap.size, 1, none⟩ = some (.int .i64 o1) := cell_of_row _ _ 1 _ _ _ hX4
    have cY2 : w4.cell? ⟨w.heap.size, 2, none⟩ = some (.int .i64 o2) := cell_of_row _ _ 2 _ _ _ hX4
    have cY3 : w4.cell? ⟨w.heap.size, 3, none⟩ = some (.int .i64 o3) := cell_of_row _ _ 3 _ _ _ hX4
    have cY4 : w4.cell? ⟨w.heap.size, 4, none⟩ = some (.int .i64 o4) := cell_of_row _ _ 4 _ _ _ hX4
    have cY5 : w4.cell? ⟨w.heap.size, 5, none⟩ = some (.int .i64 o5) := cell_of_row _ _ 5 _ _ _ hX4
    have cY6 : w4.cell? ⟨w.heap.size, 6, none⟩ = some (.string o6) := cell_of_row _ _ 6 _ _ _ hX4
    have cY7 : w4.cell? ⟨w.heap.size, 7, none⟩ = some (.slice A o7.length c) := cell_of_row _ _ 7 _ _ _ hX4
    have cY8 : w4.cell? ⟨w.heap.size, 8, none⟩ = some (.string o8) := cell_of_row _ _ 8 _ _ _ hX4
    clear hX4 cX0 cN0 cX1 cN1 cX2 cN2 cX3 cN3 cX4 cN4 cX5 cN5 cX6 cN6 cX7 cN7 cX8 cN8
    cases s with
    | false =>
      go_wp2_with fail
      have hr := HR.out
      simp only [Bool.false_and, Bool.true_and, Bool.and_false] at hr
      subst hr
      go_ret
      exact ⟨rfl, HB4.out⟩
    | true =>
      go_wp2_with fail
      refine (HN1.out w4).mono ?_
      rintro e w5 ⟨rfl, ⟨⟨m1, rfl⟩⟩⟩
      dsimp only
      cases n1 with
      | false =>
        go_wp2_with fail
        have hr := HR.out
        simp only [Bool.false_and, Bool.true_and, Bool.and_false] at hr
        subst hr
        go_ret
        exact ⟨rfl, pw_below_drewN HB4.out _⟩
      | true =>
        go_wp2_with fail
        refine (HN2.out _).mono ?_
        rintro e w5 ⟨rfl, ⟨⟨m2, rfl⟩⟩⟩
        dsimp only
        cases n2 with
        | false =>
          go_wp2_with fail
          have hr := HR.out
          simp only [Bool.false_and, Bool.true_and, Bool.and_false] at hr
          subst hr
          go_ret
          exact ⟨rfl, pw_below_drewN HB4.out _⟩
        | true =>
          go_wp2_with fail
          refine (HN3.out _).mono ?_
          rintro e w5 ⟨rfl, ⟨⟨m3, rfl⟩⟩⟩
          dsimp only
          have HB5 := hide (pw_below_drewN (pw_below_drewN HB4.out (m1 + m2)) m3)
          obtain ⟨w6, hw6⟩ : ∃ w6, (w4.drewN (m1 + m2)).drewN m3 = w6 := ⟨_, rfl⟩
          rw [hw6] at HB5 ⊢
          have cZ0 : w6.cell? ⟨w.heap.size, 0, none⟩ = some (.int .i64 o0) := by rw [← hw6]; exact cY0
          have cZ4 : w6.cell? ⟨w.heap.size, 4, none⟩ = some (.int .i64 o4) := by rw [← hw6]; exact cY4
          have cZ5 : w6.cell? ⟨w.heap.size, 5, none⟩ = some (.int .i64 o5) := by rw [← hw6]; exact cY5
          clear hw6 cY0 cY1 cY2 cY3 cY4 cY5 cY6 cY7 cY8
          cases n3 with
          | false =>
            go_wp2_with fail
            have hr := HR.out
            simp only [Bool.false_and, Bool.true_and, Bool.and_false] at hr
            subst hr
            go_ret
            exact ⟨rfl, HB5.out⟩
          | true =>
            cases h2 : (o4 == 2) <;> cases h3 : (o4 == 3) <;> cases h5 : (o4 == 5) <;> cases h1 : (o0 == 1) <;> cases g0 : decide (0 ≤ o5) <;> cases g2 : decide (o5 ≤ 2)
            all_goals (
              have h1' : (o0 != 1) = !(o0 == 1) := rfl
              rw [h1] at h1'
              simp only [Bool.not_true, Bool.not_false] at h1'
              have hr := HR.out
              rw [h2, h3, h5, h1, g0, g2] at hr
              simp only [Bool.false_and, Bool.true_and, Bool.and_false, Bool.or_true, Bool.true_or, Bool.or_false, Bool.false_or, Bool.not_true, Bool.not_false, Bool.and_true, Bool.and_self, Bool.or_self] at hr
              subst hr
              go_wp2_with fail
              go_ret
              exact ⟨rfl, HB5.out⟩)
end Go.Proofs.YtbljbgjecnmeeaaDoor.OpP
