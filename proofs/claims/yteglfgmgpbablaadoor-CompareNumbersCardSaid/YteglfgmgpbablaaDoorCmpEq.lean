/- The walks of arbourref14.Same and arbourkeep.Tree: trees are the same where no difference is found. -/
import Derived.Test.YteglfgmgpbablaaDoorCmpOneP
namespace Go.Proofs.YteglfgmgpbablaaDoor.Cmp
open Go.RowKit Go.Proofs.YteglfgmgpbablaaDoor.PCompareTells Go.Proofs.YteglfgmgpbablaaDoorW.PrintWords Go.Proofs.YteglfgmgpbablaaDoorW.PrintLast
/-- The same trees. -/
def eqT (a b : S26) : Bool := (dif a b).isNone
def eqK (l m : List S26) (i : Int) : Bool := (difK l m i).isNone
theorem eqT_eq (a b : S26) : eqT a b = (labL a b && eqK a.f5 b.f5 0) := by
  unfold eqT eqK
  rw [dif_eq]
  cases labL a b with
  | true => rw [if_pos rfl, Bool.true_and]
  | false => rfl
theorem eqK_len : ∀ (l m : List S26) (i : Int), l.length ≠ m.length → eqK l m i = false
  | [], [], _, h => by simp at h
  | [], _ :: _, i, _ => by unfold eqK; rw [difK]; rfl
  | _ :: _, [], i, _ => by unfold eqK; rw [difK]; rfl
  | x :: l, y :: m, i, h => by
    have h2 := eqK_len l m (i + 1) (by simpa using h)
    unfold eqK at h2 ⊢
    rw [difK]
    cases dif x y with
    | none => exact h2
    | some p => rfl
theorem eqK_cons (x y : S26) (l m : List S26) (i : Int) : eqK (x :: l) (y :: m) i = (eqT x y && eqK l m (i + 1)) := by
  unfold eqK eqT
  rw [difK]
  cases dif x y with
  | none => rfl
  | some p => rfl
theorem eqK_step (l m : List S26) (k : Nat) (hl : k < l.length) (hm : k < m.length) (i : Int) : eqK (l.drop k) (m.drop k) i = (eqT (l.getD k z26) (m.getD k z26) && eqK (l.drop (k + 1)) (m.drop (k + 1)) (i + 1)) := by
  have e : ∀ (q : List S26) (h : k < q.length), q.drop k = q.getD k z26 :: q.drop (k + 1) := fun q h => by
    rw [List.drop_eq_getElem_cons h]
    simp [List.getD, h]
  rw [e l hl, e m hm, eqK_cons]
def EqAt (n : Nat) : Prop := ∀ (a b : S26) (va vb : Value) (w : World), W a ≤ n → TV w va a → TV w vb b → AL 100000000 a → Calls Tryd.prog 33 #[va, vb] w fun e w' => e = .returned (.bool (eqT a b)) ∧ Below w.heap.size w w'
/-- At the loop's head. -/
def EqRel (w : World) (a b : S26) (A3 : Option Addr) (c3 : Nat) (A5 : Option Addr) (c5 : Nat) (B3 : Option Addr) (d3 : Nat) (B5 : Option Addr) (d5 : Nat) (R : Bool) (k : Nat) (wr : World) : Prop := R = eqK (a.f5.drop k) (b.f5.drop k) (k : Int) ∧ wr.heap[w.heap.size]? = some (.cells #[.int .i64 a.f0, .int .i64 a.f1, .string a.f2, .slice A3 a.f3.length c3, .string a.f4, .slice A5 a.f5.length c5] 26) ∧ wr.heap[w.heap.size + 1]? = some (.cells #[.int .i64 b.f0, .int .i64 b.f1, .string b.f2, .slice B3 b.f3.length d3, .string b.f4, .slice B5 b.f5.length d5] 26) ∧ Below w.heap.size w wr
set_option maxHeartbeats 20000000 in
set_option maxRecDepth 100000 in
theorem eq_succ (n : Nat) (ih : EqAt n) : EqAt (n + 1) := by
  intro a b va vb w hWn ha hb hal
  obtain ⟨A3, c3, A5, c5, rfl, l3, g3, l5, g5⟩ := ha
  obtain ⟨B3, d3, B5, d5, rfl, m3, j3, m5, j5⟩ := hb
  have b1 := below_alloc (Below.refl w.heap.size w) (.cells #[.int .i64 a.f0, .int .i64 a.f1, .string a.f2, .slice A3 a.f3.length c3, .string a.f4, .slice A5 a.f5.length c5] 26)
  have hs1 : (w.alloc (.cells #[.int .i64 a.f0, .int .i64 a.f1, .string a.f2, .slice A3 a.f3.length c3, .string a.f4, .slice A5 a.f5.length c5] 26)).heap.size = w.heap.size + 1 := by simp
  have hX1 := heap_alloc_new w (.cells #[.int .i64 a.f0, .int .i64 a.f1, .string a.f2, .slice A3 a.f3.length c3, .string a.f4, .slice A5 a.f5.length c5] 26)
  obtain ⟨w1, hw1⟩ : ∃ w1, w.alloc (.cells #[.int .i64 a.f0, .int .i64 a.f1, .string a.f2, .slice A3 a.f3.length c3, .string a.f4, .slice A5 a.f5.length c5] 26) = w1 := ⟨_, rfl⟩
  rw [hw1] at b1 hs1 hX1
  have b2 := below_alloc (Below.refl w1.heap.size w1) (.cells #[.int .i64 b.f0, .int .i64 b.f1, .string b.f2, .slice B3 b.f3.length d3, .string b.f4, .slice B5 b.f5.length d5] 26)
  have hX2 := heap_alloc_new w1 (.cells #[.int .i64 b.f0, .int .i64 b.f1, .string b.f2, .slice B3 b.f3.length d3, .string b.f4, .slice B5 b.f5.length d5] 26)
  obtain ⟨w2, hw2⟩ : ∃ w2, w1.alloc (.cells #[.int .i64 b.f0, .int .i64 b.f1, .string b.f2, .slice B3 b.f3.length d3, .string b.f4, .slice B5 b.f5.length d5] 26) = w2 := ⟨_, rfl⟩
  rw [hw2] at b2 hX2
  rw [hs1] at hX2
  have hX1' := (b2.block _ (by omega)).trans hX1
  have hB2 := below_step b1 b2
  have hala := hal
  rw [AL_eq] at hala
  have HLB := hide (arbourref14_Label.calls (a.f3.length + 1) a.f0 a.f1 a.f2 A3 c3 a.f3 a.f4 A5 c5 a.f5 b.f0 b.f1 b.f2 B3 d3 b.f3 b.f4 B5 d5 b.f5 (labL a b) w2 (Kd.C_below g3 hB2) l3 (Kd.C_below g5 hB2) l5 (Kd.C_below j3 hB2) m3 (Kd.C_below j5 hB2) m5 (refLabel a b (by have := hala.1; omega) _ (Nat.lt_succ_self _)))
  have hS := eqT_eq a b
  obtain ⟨R, hR⟩ : ∃ R, eqT a b = R := ⟨_, rfl⟩
  rw [hR] at hS ⊢
  have HS := hide hS
  have HX1 := hide hX1'
  have HX2 := hide hX2
  have HB2 := hide hB2
  have HS1 := hide hs1
  have HG5 := hide g5
  have HJ5 := hide j5
  have HAL := hide hala.2
  have HWN := hide hWn
  have hal5 : a.f5.length ≤ 9223372036854775807 := g5.2.1
  have hbl5 : b.f5.length ≤ 9223372036854775807 := j5.2.1
  clear hR hS hX1 hX1' hX2 hB2 b1 b2 hs1 g3 g5 j3 j5 l3 l5 m3 m5 hal hala hWn
  have x5 := cell_of_row _ _ 5 _ _ _ HX1.out
  obtain ⟨lb, hlb⟩ : ∃ lb, labL a b = lb := ⟨_, rfl⟩
  rw [hlb] at HLB HS
  clear hlb
  go_enter Tryd.func33, Tryd.ntmps33
  have a0_ := cell_of_row _ _ 0 _ _ _ HX1.out
  have a1_ := cell_of_row _ _ 1 _ _ _ HX1.out
  have a2_ := cell_of_row _ _ 2 _ _ _ HX1.out
  have a3_ := cell_of_row _ _ 3 _ _ _ HX1.out
  have a4_ := cell_of_row _ _ 4 _ _ _ HX1.out
  have a5_ := cell_of_row _ _ 5 _ _ _ HX1.out
  have b0_ := cell_of_row _ _ 0 _ _ _ HX2.out
  have b1_ := cell_of_row _ _ 1 _ _ _ HX2.out
  have b2_ := cell_of_row _ _ 2 _ _ _ HX2.out
  have b3_ := cell_of_row _ _ 3 _ _ _ HX2.out
  have b4_ := cell_of_row _ _ 4 _ _ _ HX2.out
  have b5_ := cell_of_row _ _ 5 _ _ _ HX2.out
  go_upto_region 1 with fail
  clear hw1 hw2
  rw [HS1.out]
  go_wp2_with fail
  refine HLB.out.mono ?_
  rintro e w3 ⟨rfl, hb3⟩
  dsimp only
  have HB3 := hide (below_step HB2.out hb3)
  have HX13 := hide ((hb3.block _ (blk_lt HX1.out)).trans HX1.out)
  have HX23 := hide ((hb3.block _ (blk_lt HX2.out)).trans HX2.out)
  have p5 := cellW a5_ hb3
  have q5 := cellW b5_ hb3
  clear hb3 HLB HX1 HX2 HB2 a0_ a1_ a2_ a3_ a4_ a5_ b0_ b1_ b2_ b3_ b4_ b5_ x5
  cases lb with
  | false =>
    have hS := HS.out
    rw [Bool.false_and] at hS
    subst hS
    go_wp2_with fail
    go_ret
    exact ⟨rfl, HB3.out⟩
  | true =>
    have hS := HS.out
    rw [Bool.true_and] at hS
    by_cases hlen : a.f5.length = b.f5.length
    · have hne : ((a.f5.length : Int) != (b.f5.length : Int)) = false := by rw [hlen]; simp
      have hne2 : (a.f5.length != b.f5.length) = false := by rw [hlen]; simp
      have HLEN := hide hlen
      have HR := hide (show EqRel w a b A3 c3 A5 c5 B3 d3 B5 d5 R 0 w3 from ⟨by rw [List.drop_zero, List.drop_zero]; exact hS, HX13.out, HX23.out, HB3.out⟩)
      clear hS hlen HS HX13 HX23 HB3
      go_wp2_with fail
      go_loopw [5] (fun i wr => ∃ k : Nat, k ≤ a.f5.length ∧ i = .int .i64 (k : Int) ∧ Aside0 (EqRel w a b A3 c3 A5 c5 B3 d3 B5 d5 R k wr)) (fun i _ => a.f5.length - (intOf i).toNat)
      case atStart => exact ⟨0, Nat.zero_le _, rfl, ⟨HR.out⟩⟩
      case round =>
        clear HR p5 q5 hne hne2
        obtain ⟨k, hk, rfl, hrel⟩ := hrel
        obtain ⟨hR, hX1, hX2, hB⟩ := hrel.out
        clear hrel
        have y5 := cell_of_row _ _ 5 _ _ _ hX1
        have z5 := cell_of_row _ _ 5 _ _ _ hX2
        by_cases hlt : k < a.f5.length
        · rw [eqK_step _ _ k hlt (by have := HLEN.out; omega)] at hR
          have k1 : (k : Int) < (a.f5.length : Int) := by omega
          have k1' : (k : Int) < (b.f5.length : Int) := by have := HLEN.out; omega
          have k2 : (0 : Int) ≤ (k : Int) := by omega
          obtain ⟨ad, hAd, hka⟩ := TAt_kid (Kd.C_below HG5.out hB) k hlt
          obtain ⟨bd, hBd, hkb⟩ := TAt_kid (Kd.C_below HJ5.out hB) k (by have := HLEN.out; omega)
          have ea : rd_T26 a.f5 (k : Int) = a.f5.getD k z26 := by unfold rd_T26; rfl
          have eb : rd_T26 b.f5 (k : Int) = b.f5.getD k z26 := by unfold rd_T26; rfl
          rw [ea] at hka
          rw [eb] at hkb
          subst hAd
          subst hBd
          have hWk := W_kid a k hlt
          have hAk := ALK_at _ a.f5 k hlt HAL.out
          rw [ea] at hAk
          obtain ⟨⟨p0, p1, p2, p3, p4, p5⟩, hp⟩ : ∃ p, a.f5.getD k z26 = p := ⟨_, rfl⟩
          obtain ⟨⟨q0, q1, q2, q3, q4, q5⟩, hq⟩ : ∃ q, b.f5.getD k z26 = q := ⟨_, rfl⟩
          rw [hp] at hka hR hWk hAk
          rw [hq] at hkb hR
          obtain ⟨P3, u3, P5, u5, g0, g1, g2, g3, g4, g5, -, v3, -, v5⟩ := id hka
          obtain ⟨Q3, t3, Q5, t5, h0, h1, h2, h3, h4, h5, -, r3, -, r5⟩ := id hkb
          dsimp only at g0 g1 g2 g3 g4 g5 h0 h1 h2 h3 h4 h5
          have hTa : TV wr (.agg #[.int .i64 p0, .int .i64 p1, .string p2, .slice P3 p3.length u3, .string p4, .slice P5 p5.length u5]) ⟨p0, p1, p2, p3, p4, p5⟩ := by
            obtain ⟨_, _, _, _, i0, i1, i2, i3, i4, i5, l3, v3, l5, v5⟩ := hka
            dsimp only at i3 i5
            rw [g3] at i3
            rw [g5] at i5
            simp only [Option.some.injEq, Value.slice.injEq, true_and] at i3 i5
            obtain ⟨rfl, rfl⟩ := i3
            obtain ⟨rfl, rfl⟩ := i5
            exact ⟨_, _, _, _, rfl, l3, v3, l5, v5⟩
          have hTb : TV wr (.agg #[.int .i64 q0, .int .i64 q1, .string q2, .slice Q3 q3.length t3, .string q4, .slice Q5 q5.length t5]) ⟨q0, q1, q2, q3, q4, q5⟩ := by
            obtain ⟨_, _, _, _, i0, i1, i2, i3, i4, i5, l3, v3, l5, v5⟩ := hkb
            dsimp only at i3 i5
            rw [h3] at i3
            rw [h5] at i5
            simp only [Option.some.injEq, Value.slice.injEq, true_and] at i3 i5
            obtain ⟨rfl, rfl⟩ := i3
            obtain ⟨rfl, rfl⟩ := i5
            exact ⟨_, _, _, _, rfl, l3, v3, l5, v5⟩
          have HC := hide (ih ⟨p0, p1, p2, p3, p4, p5⟩ ⟨q0, q1, q2, q3, q4, q5⟩ _ _ wr.drew (by have := HWN.out; omega) (hTa.below (below_drew (Below.refl _ _))) (hTb.below (below_drew (Below.refl _ _))) hAk)
          have HR := hide hR
          have HX1 := hide hX1
          have HX2 := hide hX2
          have HB := hide hB
          obtain ⟨bb, hbb⟩ : ∃ bb, eqT ⟨p0, p1, p2, p3, p4, p5⟩ ⟨q0, q1, q2, q3, q4, q5⟩ = bb := ⟨_, rfl⟩
          rw [hbb] at HC HR
          clear hbb hp hq ea eb hka hkb hWk hAk hTa hTb v3 v5 r3 r5 hR hX1 hX2 hB hlt hk
          cases bb with
          | false =>
            have hR := HR.out
            rw [Bool.false_and] at hR
            subst hR
            go_upto_region 6 with fail
            first
            | go_region_with (first | (go_at_call 33; (with_reducible refine HC.out.mono ?_); rintro e w5 ⟨rfl, hB5⟩; have HB5 := hide (below_step HB.out (below_step ((Below.refl wr.heap.size wr).drew) hB5)); clear hB5))
            | fail
            all_goals (
              go_wp2_with fail
              go_ret
              exact ⟨rfl, HB5.out⟩)
          | true =>
            go_upto_region 6 with fail
            first
            | go_region_with (first | (go_at_call 33; (with_reducible refine HC.out.mono ?_); rintro e w5 ⟨rfl, hB5⟩; have hbb5 := below_step ((Below.refl wr.heap.size wr).drew) hB5; have HB5 := hide (below_step HB.out hbb5); have HX15 := hide ((hbb5.block _ (blk_lt HX1.out)).trans HX1.out); have HX25 := hide ((hbb5.block _ (blk_lt HX2.out)).trans HX2.out); clear hB5 hbb5))
            | fail
            all_goals (
              go_wp2_with fail
              go_roundw
              case rel => exact ⟨k + 1, by omega, by go_num, ⟨by have h9 := HR.out; rw [Bool.true_and] at h9; rw [h9]; congr 1, HX15.out, HX25.out, HB5.out⟩⟩
              case measure => simp [intOf]; omega)
        · have hkn : k = a.f5.length := by omega
          have k1 : ¬ (k : Int) < (a.f5.length : Int) := by omega
          have hbn : b.f5.length ≤ k := by have := HLEN.out; omega
          rw [List.drop_eq_nil_of_le (by omega), List.drop_eq_nil_of_le hbn] at hR
          have hR2 : R = true := by rw [hR]; unfold eqK; rw [difK]; rfl
          subst hR2
          have HB := hide hB
          clear hR hkn hbn hlt hk hX1 hX2 hB
          go_wp2_with fail
          go_ret
          exact ⟨rfl, HB.out⟩
    · have hne : ((a.f5.length : Int) != (b.f5.length : Int)) = true := by rw [bne_iff_ne]; intro h; exact hlen (by omega)
      have hne2 : (a.f5.length != b.f5.length) = true := by rw [bne_iff_ne]; exact hlen
      rw [eqK_len _ _ _ hlen] at hS
      subst hS
      clear hlen
      go_wp2_with fail
      go_ret
      exact ⟨rfl, HB3.out⟩
theorem eq_at : ∀ n, EqAt n
  | 0 => fun a _ _ _ _ h => by have := W_eq a; omega
  | n + 1 => eq_succ n (eq_at n)
set_option maxHeartbeats 4000000 in
set_option maxRecDepth 100000 in
theorem keepTree (a b : S26) (va vb : Value) (w : World) (ha : TV w va a) (hb : TV w vb b) (hal : AL 100000000 a) : Calls Tryd.prog 19 #[va, vb] w fun e w' => e = .returned (.bool (eqT a b)) ∧ Below w.heap.size w w' := by
  have hc := fun (V : World) (hV : Below w.heap.size w V) => eq_at (W a) a b va vb V (Nat.le_refl _) (ha.below hV) (hb.below hV) hal
  have HC := hide hc
  obtain ⟨A3, c3, A5, c5, rfl, -⟩ := ha
  obtain ⟨B3, d3, B5, d5, rfl, -⟩ := hb
  have b1 := below_alloc (Below.refl w.heap.size w) (.cells #[.int .i64 a.f0, .int .i64 a.f1, .string a.f2, .slice A3 a.f3.length c3, .string a.f4, .slice A5 a.f5.length c5] 26)
  have b2 := below_alloc b1 (.cells #[.int .i64 b.f0, .int .i64 b.f1, .string b.f2, .slice B3 b.f3.length d3, .string b.f4, .slice B5 b.f5.length d5] 26)
  have HB := hide b2
  clear hc b1 b2
  go_enter Tryd.func19, Tryd.ntmps19
  go_wp2_with fail
  refine (HC.out _ HB.out).mono ?_
  rintro e w3 ⟨rfl, hb3⟩
  dsimp only
  have HB3 := hide (below_step HB.out hb3)
  clear hb3
  go_wp2_with fail
  go_ret
  exact ⟨rfl, HB3.out⟩
end Go.Proofs.YteglfgmgpbablaaDoor.Cmp
