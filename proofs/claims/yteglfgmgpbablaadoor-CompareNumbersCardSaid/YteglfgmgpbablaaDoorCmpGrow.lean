/- The walk of arbourlaw24.grow. -/
import Derived.Test.YteglfgmgpbablaaDoorCmpUnderT
import Derived.Test.YteglfgmgpbablaaDoorCmpGrowP
namespace Go.Proofs.YteglfgmgpbablaaDoor.Cmp
open Go.RowKit Go.Proofs.YteglfgmgpbablaaDoor.PCompareTells Go.Proofs.YteglfgmgpbablaaDoorW.PrintWords Go.Proofs.YteglfgmgpbablaaDoorW.PrintLast
def growN (l : List S45) (n : Nat) : S26 × List Nat := (l.take n).foldl (fun s x => stepL x s) (doc, [])
theorem growN_succ (l : List S45) (n : Nat) (h : n < l.length) : growN l (n + 1) = stepL (rd_T45 l (n : Int)) (growN l n) := by
  have e : rd_T45 l (n : Int) = l[n] := by
    unfold rd_T45
    rw [Int.toNat_natCast, List.getD_eq_getElem?_getD, List.getElem?_eq_getElem h]
    rfl
  unfold growN
  rw [e, List.take_succ_eq_append_getElem h, List.foldl_append, List.foldl_cons, List.foldl_nil]
theorem growN_grown (l : List S45) : ∀ n, n ≤ l.length → Grown n (growN l n)
  | 0, _ => grown_doc
  | n + 1, h => by
    rw [growN_succ l n (by omega)]
    exact grown_step n _ _ (growN_grown l n (by omega))
theorem growL_N (l : List S45) (n : Nat) (h : n ≤ l.length) (h2 : n ≤ 25) (h3 : ¬ (n < l.length ∧ n < 25)) : growL l = (growN l n).1 := by
  unfold growL growS growN
  congr 2
  by_cases e : n = 25
  · rw [e]
  · have hn : n = l.length := by omega
    rw [hn, List.take_of_length_le (by omega), List.take_of_length_le (Nat.le_refl _)]
/-- At the loop's head. -/
def GrowRel (w : World) (l : List S45) (v i : Value) (wr : World) : Prop := ∃ (n : Nat), n ≤ l.length ∧ n ≤ 25 ∧ i = .int .i64 (n : Int) ∧ Aside0 (∃ (A3 : Option Addr) (c3 : Nat) (A5 : Option Addr) (c5 : Nat), wr.heap[w.heap.size + 1]? = some (.cells #[.int .i64 (growN l n).1.f0, .int .i64 (growN l n).1.f1, .string (growN l n).1.f2, .slice A3 (growN l n).1.f3.length c3, .string (growN l n).1.f4, .slice A5 (growN l n).1.f5.length c5] 26 (0, 0)) ∧ TF wr (fun k => w.heap.size + 2 ≤ k) (.agg #[.int .i64 (growN l n).1.f0, .int .i64 (growN l n).1.f1, .string (growN l n).1.f2, .slice A3 (growN l n).1.f3.length c3, .string (growN l n).1.f4, .slice A5 (growN l n).1.f5.length c5]) (growN l n).1) ∧ Aside0 (WF wr (fun k => w.heap.size + 2 ≤ k) v (growN l n).2) ∧ Aside0 (wr.heap[w.heap.size]? = some (.cells #[.int .i64 0, .int .i64 0, .string ⟨#[]⟩, .slice none 0 0, .string ⟨#[]⟩, .slice none 0 0] 26 (0, 0))) ∧ Aside0 (Below w.heap.size w wr)
theorem GrowRel.mk' {w : World} {l : List S45} {v : Value} {wr : World} {n : Nat} {y : S26} {yw : List Nat} {A3 A5 : Option Addr} {c3 c5 : Nat} (h1 : n ≤ l.length) (h2 : n ≤ 25) (hy : growN l n = (y, yw)) (hb : wr.heap[w.heap.size + 1]? = some (.cells #[.int .i64 y.f0, .int .i64 y.f1, .string y.f2, .slice A3 y.f3.length c3, .string y.f4, .slice A5 y.f5.length c5] 26 (0, 0))) (ht : TF wr (fun k => w.heap.size + 2 ≤ k) (.agg #[.int .i64 y.f0, .int .i64 y.f1, .string y.f2, .slice A3 y.f3.length c3, .string y.f4, .slice A5 y.f5.length c5]) y) (hw : WF wr (fun k => w.heap.size + 2 ≤ k) v yw) (hx : wr.heap[w.heap.size]? = some (.cells #[.int .i64 0, .int .i64 0, .string ⟨#[]⟩, .slice none 0 0, .string ⟨#[]⟩, .slice none 0 0] 26 (0, 0))) (hbl : Below w.heap.size w wr) : GrowRel w l v (.int .i64 (n : Int)) wr :=
  ⟨n, h1, h2, rfl, ⟨A3, c3, A5, c5, by rw [hy]; exact hb, by rw [hy]; exact ht⟩, ⟨by rw [hy]; exact hw⟩, ⟨hx⟩, ⟨hbl⟩⟩
theorem lit0_WF (W : World) (ok : Nat → Prop) (a : Addr) : WF W ok (.slice (some a) 0 0) [] := fun _ _ => ⟨some a, 0, rfl, Nat.le_refl _, rfl, by simp, fun h => absurd h (by simp)⟩
theorem within_u (a : Int) (n : Nat) (h : n ≤ 2000000) : ∃ u : Nat, u ≤ n ∧ withinL a n = u ∧ arbourbook_Within.f a 0 (n : Int) = some (u : Int) := by
  obtain ⟨t, h0, h1, ht⟩ := within0 a n h
  refine ⟨t.toNat, by omega, by unfold withinL; rw [ht]; rfl, ?_⟩
  rw [ht]
  congr 1
  omega
set_option maxHeartbeats 20000000 in
set_option maxRecDepth 100000 in
theorem grow (l : List S45) (A : Option Addr) (c : Nat) (w : World) (hC : k45.C w A l.length l) (_hc : l.length ≤ c) :
    Calls Tryd.prog 8 #[.slice A l.length c] w fun e w' => ∃ v, e = .returned v ∧ TF w' (fun k => w.heap.size ≤ k) v (growL l) ∧ Below w.heap.size w w' := by
  have HC := hide hC
  have HL9 := hide hC.2.1
  clear hC
  go_enter Tryd.func8, Tryd.ntmps8
  go_wp2_with fail
  have hX2 := heap_alloc_new w (.cells #[.int .i64 0, .int .i64 0, .string ⟨#[]⟩, .slice none 0 0, .string ⟨#[]⟩, .slice none 0 0] 26)
  have b1 := below_alloc (Below.refl w.heap.size w) (.cells #[.int .i64 0, .int .i64 0, .string ⟨#[]⟩, .slice none 0 0, .string ⟨#[]⟩, .slice none 0 0] 26)
  have hs1 : (w.alloc (.cells #[.int .i64 0, .int .i64 0, .string ⟨#[]⟩, .slice none 0 0, .string ⟨#[]⟩, .slice none 0 0] 26)).heap.size = w.heap.size + 1 := by simp
  obtain ⟨w1, hw1⟩ : ∃ w1, w.alloc (.cells #[.int .i64 0, .int .i64 0, .string ⟨#[]⟩, .slice none 0 0, .string ⟨#[]⟩, .slice none 0 0] 26) = w1 := ⟨_, rfl⟩
  rw [hw1] at hX2 b1 hs1 ⊢
  have hX3 := heap_alloc_new w1 (.cells #[.int .i64 1, .int .i64 0, .string ⟨#[]⟩, .slice none 0 0, .string ⟨#[]⟩, .slice none 0 0] 26)
  have b2 := below_alloc (Below.refl w1.heap.size w1) (.cells #[.int .i64 1, .int .i64 0, .string ⟨#[]⟩, .slice none 0 0, .string ⟨#[]⟩, .slice none 0 0] 26)
  have b3 := below_alloc b2 (.cells #[] 3)
  have b4 := below_alloc (Below.refl (w1.alloc (.cells #[.int .i64 1, .int .i64 0, .string ⟨#[]⟩, .slice none 0 0, .string ⟨#[]⟩, .slice none 0 0] 26)).heap.size _) (.cells #[] 3)
  rw [hs1] at hX3
  have gX3 := (b4.block (w.heap.size + 1) (by simp [hs1])).trans hX3
  have gX2 := (b3.block w.heap.size (by omega)).trans hX2
  have HB := hide (below_step b1 b3)
  obtain ⟨w4, hw4⟩ : ∃ w4, (w1.alloc (.cells #[.int .i64 1, .int .i64 0, .string ⟨#[]⟩, .slice none 0 0, .string ⟨#[]⟩, .slice none 0 0] 26)).alloc (.cells #[] 3) = w4 := ⟨_, rfl⟩
  rw [hw4] at gX3 gX2 HB ⊢
  have HX3 := hide gX3
  have HX2 := hide gX2
  clear hw4 hw1 hX2 hX3 b1 b2 b3 b4 hs1 gX3 gX2
  go_loopw [4, 5, 6] (fun v i _ wr => GrowRel w l v i wr) (fun _ i _ _ => 25 - (intOf i).toNat)
  case atStart => exact ⟨0, Nat.zero_le _, by omega, rfl, ⟨none, 0, none, 0, HX3.out, fun _ _ => ⟨none, 0, none, 0, rfl, Nat.le_refl _, Kd.C_nil _ _, Nat.le_refl _, Kd.C_nil _ _⟩⟩, ⟨lit0_WF _ _ _⟩, ⟨HX2.out⟩, ⟨HB.out⟩⟩
  case round =>
    clear HX3 HX2 HB
    obtain ⟨n, hnl, hn25, rfl, hT, hWy, hX2, hB⟩ := hrel
    obtain ⟨A3, c3, A5, c5, hX3, hTF⟩ := hT.out
    have G := growN_grown l n hnl
    have HB := hide hB.out
    have HX2 := hide hX2.out
    clear hT hB hX2
    by_cases hlt : n < l.length ∧ n < 25
    · have HS := hide (growN_succ l n hlt.1)
      obtain ⟨s, hs⟩ : ∃ s, growN l n = s := ⟨_, rfl⟩
      rw [hs] at HS G hTF hX3
      have hWy' := hWy.out
      rw [hs] at hWy'
      obtain ⟨⟨t0, t1, t2, t3, t4, t5⟩, way⟩ := s
      clear hs hWy
      dsimp only at hTF hX3 hWy'
      have hwl : way.length ≤ 101 := by
        have h1 := way_len' way _ G.valid
        have h2 := G.weight
        dsimp only at h1 h2
        omega
      obtain ⟨Aw, cw, rfl, hcw, hCw⟩ := hWy'.now
      obtain ⟨ad, Ax, cx, rfl, e0, e1, e2, e3, e4, e5, lx, gx⟩ := at_T45 (Kd.C_below HC.out HB.out) (n : Int) (by omega) (by omega)
      rw [Int.toNat_natCast] at e0 e1 e2 e3 e4 e5
      obtain ⟨x, hx⟩ : ∃ x, rd_T45 l (n : Int) = x := ⟨_, rfl⟩
      rw [hx] at HS e0 e1 e2 e3 e4 e5 lx gx
      clear hx
      obtain ⟨u, hu, hwu, hfu⟩ := within_u x.f2 way.length (by omega)
      have hHS : growN l (n + 1) = underL (madeL x ((way.take (way.length - u)).length == 0)) (way.take (way.length - u)) ⟨t0, t1, t2, t3, t4, t5⟩ := by
        rw [HS.out]
        unfold stepL
        rw [hwu]
      obtain ⟨i3, hi3, hs3_⟩ : ∃ i, Tryd.prog.info? 3 = some i ∧ i.size = 1 := by
        obtain ⟨i0, hi, hzz⟩ := Option.map_eq_some_iff.1 info3
        simp only [Prod.mk.injEq] at hzz
        exact ⟨i0, hi, hzz.2.1⟩
      have hcut := cut_to (P := Tryd.prog) 31 3 .i64 Tryd.underlying31 hi3 Aw way.length cw ((way.length : Int) - (u : Int)) (by omega) (by omega) hcw
      have htl : ((way.length : Int) - (u : Int)).toNat = (way.take (way.length - u)).length := by rw [List.length_take]; omega
      rw [htl] at hcut
      clear hs3_ hi3 htl HS hwu
      have HCT := hide (show kI.C wr Aw (way.take (way.length - u)).length ((way.take (way.length - u)).map Int.ofNat) from by
        have h := Kd.C_take hCw (m := way.length - u) (by rw [List.length_map]; omega)
        rw [← List.map_take, List.length_map] at h
        exact h)
      have HVT := hide (valid_take way _ (way.length - u) G.valid)
      have HTL := hide (show (way.take (way.length - u)).length ≤ cw by rw [List.length_take]; omega)
      have hrl : (way.take (way.length - u)).length ≤ 101 := by rw [List.length_take]; omega
      obtain ⟨way', hw'⟩ : ∃ way', way.take (way.length - u) = way' := ⟨_, rfl⟩
      rw [hw'] at hHS hcut HCT HVT HTL hrl
      clear hw'
      have HFU := hide hfu
      have HHS := hide hHS
      clear hfu hHS hWy' hCw hcw
      obtain ⟨m, hm⟩ : ∃ m, way.length = m := ⟨_, rfl⟩
      obtain ⟨m', hm'⟩ : ∃ m', way'.length = m' := ⟨_, rfl⟩
      rw [hm] at HFU hu hwl hcut ⊢
      rw [hm'] at hcut hrl HTL HCT HHS
      have HM' := hide hm'
      have hn1 : (n : Int) < (l.length : Int) := by have := hlt.1; omega
      have hn2 : (n : Int) < 25 := by have := hlt.2; omega
      have HW := hide G.weight
      clear hm hm' G hnl hn25 hlt
      go_upto_region 8 with (go_at_call 11; refine (arbourbook_Within.calls _ _ _ _ _ HFU.out).mono ?_; rintro e w' ⟨rfl, ⟨nq, rfl⟩⟩)
      have bq := pw_below_drewN (Below.refl wr.heap.size wr) nq
      have qX3 := (bq.block _ (blk_lt hX3)).trans hX3
      have qX2 := (bq.block _ (blk_lt HX2.out)).trans HX2.out
      have HQX2 := hide qX2
      have HQX3 := hide qX3
      have HQT := hide (hTF.below bq)
      have HQC := hide (Kd.C_below HCT.out bq)
      have HQG := hide (Kd.C_below gx bq)
      have HQB := hide (below_step HB.out bq)
      have q0 := cellW e0 bq
      have q1 := cellW e1 bq
      have q2 := cellW e2 bq
      have q3 := cellW e3 bq
      have q4 := cellW e4 bq
      have q5 := cellW e5 bq
      obtain ⟨wq, hwq⟩ : ∃ wq, wr.drewN nq = wq := ⟨_, rfl⟩
      rw [hwq] at qX3 HQX2 HQX3 HQT HQC HQG HQB q0 q1 q2 q3 q4 q5 ⊢
      clear hwq bq qX2 e0 e1 e2 e3 e4 e5 hX3 hTF gx hcut
      have c0 := cell_of_row _ _ 0 _ _ _ qX3
      have c1 := cell_of_row _ _ 1 _ _ _ qX3
      have c2 := cell_of_row _ _ 2 _ _ _ qX3
      have c3_ := cell_of_row _ _ 3 _ _ _ qX3
      have c4 := cell_of_row _ _ 4 _ _ _ qX3
      have c5_ := cell_of_row _ _ 5 _ _ _ qX3
      have hbz : ((m' : Int) == 0) = (m' == 0) := by rw [Bool.eq_iff_iff, beq_iff_eq, beq_iff_eq]; omega
      obtain ⟨b, hb⟩ : ∃ b, (m' == 0) = b := ⟨_, rfl⟩
      rw [hb] at hbz HHS
      clear hb qX3
      obtain ⟨⟨⟨y0, y1, y2, y3, y4, y5⟩, yw⟩, hy⟩ : ∃ y, growN l (n + 1) = y := ⟨_, rfl⟩
      rw [hy] at HHS
      have HY := hide hy
      clear hy
      have HM := hide (made x b Ax cx wq.drew (Kd.C_drew HQG.out) lx)
      have HU := hide (show ∀ (vm : Value) (wm : World), Below wq.heap.size wq wm → TF wm (fun k => w.heap.size + 2 ≤ k) vm (madeL x b) → Calls Tryd.prog 21 #[.agg #[.int .i64 t0, .int .i64 t1, .string t2, .slice A3 t3.length c3, .string t4, .slice A5 t5.length c5], .slice Aw m' cw, vm] wm (fun e w' => ∃ v vw, e = .returned (.tuple #[v, vw]) ∧ TF w' (fun k => w.heap.size + 2 ≤ k ∨ wm.heap.size ≤ k) v ⟨y0, y1, y2, y3, y4, y5⟩ ∧ WF w' (fun k => w.heap.size + 2 ≤ k ∨ wm.heap.size ≤ k) vw yw ∧ Below wm.heap.size wm w') from fun vm wm hbm htm => by
        have h := under_at (madeL x b) m' way' ⟨t0, t1, t2, t3, t4, t5⟩ (.agg #[.int .i64 t0, .int .i64 t1, .string t2, .slice A3 t3.length c3, .string t4, .slice A5 t5.length c5]) vm wm (fun k => w.heap.size + 2 ≤ k) Aw cw HM'.out HVT.out (HQT.out.below hbm) htm (by have h1 := HW.out; have h2 := hn2; omega) (by rw [HM'.out]; exact HTL.out) (by rw [List.length_map, HM'.out]; exact Kd.C_below HQC.out hbm)
        rw [HM'.out, ← HHS.out] at h
        exact h)
      first
      | go_region_with (first
        | (go_at_call 22; (with_reducible refine HM.out.mono ?_); rintro e wm ⟨vm, rfl, hTm, hBm⟩; have hbm := below_step ((Below.refl wq.heap.size wq).drew) hBm; have HTM := hide (hTm.mono (ok' := fun k => w.heap.size + 2 ≤ k) (fun k hk => Nat.le_trans (Nat.succ_le_of_lt (blk_lt HQX3.out)) hk)); have HBM := hide hbm; have m0 := cellW c0 hbm; have m1 := cellW c1 hbm; have m2 := cellW c2 hbm; have m3 := cellW c3_ hbm; have m4 := cellW c4 hbm; have m5 := cellW c5_ hbm; clear hTm hBm hbm)
        | (go_at_call 21; (with_reducible refine (HU.out _ _ HBM.out HTM.out).mono ?_); rintro e wu ⟨v2, vw, rfl, hT2, hW2, hB2⟩; obtain ⟨N3, n3, N5, n5, rfl, _, _, _, _⟩ := hT2.open_; have hlt_ := Nat.le_trans (Nat.succ_le_of_lt (blk_lt HQX3.out)) HBM.out.size; have HTU := hide (hT2.mono (ok' := fun k => w.heap.size + 2 ≤ k) (fun k hk => hk.elim id (fun h => Nat.le_trans hlt_ h))); have HWU := hide (hW2.mono (ok' := fun k => w.heap.size + 2 ≤ k) (fun k hk => hk.elim id (fun h => Nat.le_trans hlt_ h))); have hbu := below_step HBM.out hB2; have HBU := hide hbu; have hXu := (hbu.block _ (blk_lt HQX3.out)).trans HQX3.out; have u0_ := cell_of_row _ _ 0 _ _ _ hXu; have f0 := blk_frozen hXu 0; have u1_ := cell_of_row _ _ 1 _ _ _ hXu; have f1 := blk_frozen hXu 1; have u2_ := cell_of_row _ _ 2 _ _ _ hXu; have f2 := blk_frozen hXu 2; have u3_ := cell_of_row _ _ 3 _ _ _ hXu; have f3 := blk_frozen hXu 3; have u4_ := cell_of_row _ _ 4 _ _ _ hXu; have f4 := blk_frozen hXu 4; have u5_ := cell_of_row _ _ 5 _ _ _ hXu; have f5 := blk_frozen hXu 5; have HXU := hide hXu; clear hT2 hW2 hB2 hbu hXu hlt_))
      | fail
      all_goals (
        go_wp2_with fail
        have hbU := below_step HQB.out HBU.out
        have hX2u := (HBU.out.block _ (blk_lt HQX2.out)).trans HQX2.out
        exact ⟨GrowRel.mk' (n := n + 1) (y := ⟨y0, y1, y2, y3, y4, y5⟩) (by omega) (by omega) HY.out (blk_set (blk_set (blk_set (blk_set (blk_set (blk_set HXU.out 0 (.int .i64 y0)) 1 (.int .i64 y1)) 2 (.string y2)) 3 (.slice N3 y3.length n3)) 4 (.string y4)) 5 (.slice N5 y5.length n5)) (HTU.out.step (fun k hk _ => set6_far (g := w.heap.size + 1) (a0 := 0) (a1 := 1) (a2 := 2) (a3 := 3) (a4 := 4) (a5 := 5) (v0 := (.int .i64 y0)) (v1 := (.int .i64 y1)) (v2 := (.string y2)) (v3 := (.slice N3 y3.length n3)) (v4 := (.string y4)) (v5 := (.slice N5 y5.length n5)) k (by omega))) (HWU.out.step (fun k hk _ => set6_far (g := w.heap.size + 1) (a0 := 0) (a1 := 1) (a2 := 2) (a3 := 3) (a4 := 4) (a5 := 5) (v0 := (.int .i64 y0)) (v1 := (.int .i64 y1)) (v2 := (.string y2)) (v3 := (.slice N3 y3.length n3)) (v4 := (.string y4)) (v5 := (.slice N5 y5.length n5)) k (by omega))) ((set6_far (g := w.heap.size + 1) (a0 := 0) (a1 := 1) (a2 := 2) (a3 := 3) (a4 := 4) (a5 := 5) (v0 := (.int .i64 y0)) (v1 := (.int .i64 y1)) (v2 := (.string y2)) (v3 := (.slice N3 y3.length n3)) (v4 := (.string y4)) (v5 := (.slice N5 y5.length n5)) w.heap.size (by omega)).trans hX2u) ((((((hbU.setCell (p := ⟨w.heap.size + 1, 0, none⟩) (Nat.le_succ _) (.int .i64 y0)).setCell (p := ⟨w.heap.size + 1, 1, none⟩) (Nat.le_succ _) (.int .i64 y1)).setCell (p := ⟨w.heap.size + 1, 2, none⟩) (Nat.le_succ _) (.string y2)).setCell (p := ⟨w.heap.size + 1, 3, none⟩) (Nat.le_succ _) (.slice N3 y3.length n3)).setCell (p := ⟨w.heap.size + 1, 4, none⟩) (Nat.le_succ _) (.string y4)).setCell (p := ⟨w.heap.size + 1, 5, none⟩) (Nat.le_succ _) (.slice N5 y5.length n5)), by simp [intOf]; omega⟩)
    · have hg := growL_N l n hnl hn25 hlt
      obtain ⟨s, hs⟩ : ∃ s, growN l n = s := ⟨_, rfl⟩
      rw [hs] at hg hTF hX3 G
      have HGR := hide hg
      clear hg hs hWy G
      obtain ⟨⟨t0, t1, t2, t3, t4, t5⟩, way⟩ := s
      dsimp only at hTF hX3 HGR
      have c0 := cell_of_row _ _ 0 _ _ _ hX3
      have c1 := cell_of_row _ _ 1 _ _ _ hX3
      have c2 := cell_of_row _ _ 2 _ _ _ hX3
      have c3_ := cell_of_row _ _ 3 _ _ _ hX3
      have c4 := cell_of_row _ _ 4 _ _ _ hX3
      have c5_ := cell_of_row _ _ 5 _ _ _ hX3
      have d0 := cell_of_row _ _ 0 _ _ _ HX2.out
      have d1 := cell_of_row _ _ 1 _ _ _ HX2.out
      have d2 := cell_of_row _ _ 2 _ _ _ HX2.out
      have d3 := cell_of_row _ _ 3 _ _ _ HX2.out
      have d4 := cell_of_row _ _ 4 _ _ _ HX2.out
      have d5 := cell_of_row _ _ 5 _ _ _ HX2.out
      have f0 := blk_frozen HX2.out 0
      have f1 := blk_frozen HX2.out 1
      have f2 := blk_frozen HX2.out 2
      have f3 := blk_frozen HX2.out 3
      have f4 := blk_frozen HX2.out 4
      have f5 := blk_frozen HX2.out 5
      have HX3 := hide hX3
      clear hX3
      by_cases h1 : n < l.length
      · have h2 : n = 25 := by omega
        have h3 : (n : Int) < (l.length : Int) := by omega
        have h4 : ¬ (n : Int) < 25 := by omega
        clear hlt hn25 hnl h1 h2
        go_wp2_with fail
        have hfin := (blk_set (blk_set (blk_set (blk_set (blk_set (blk_set HX2.out 0 (.int .i64 t0)) 1 (.int .i64 t1)) 2 (.string t2)) 3 (.slice A3 t3.length c3)) 4 (.string t4)) 5 (.slice A5 t5.length c5))
        have hbF := ((((((HB.out.setCell (p := ⟨w.heap.size, 0, none⟩) (Nat.le_refl _) (.int .i64 t0)).setCell (p := ⟨w.heap.size, 1, none⟩) (Nat.le_refl _) (.int .i64 t1)).setCell (p := ⟨w.heap.size, 2, none⟩) (Nat.le_refl _) (.string t2)).setCell (p := ⟨w.heap.size, 3, none⟩) (Nat.le_refl _) (.slice A3 t3.length c3)).setCell (p := ⟨w.heap.size, 4, none⟩) (Nat.le_refl _) (.string t4)).setCell (p := ⟨w.heap.size, 5, none⟩) (Nat.le_refl _) (.slice A5 t5.length c5))
        exact ⟨rfl, _, res_tree hfin 2 _ rfl rfl, _, rfl, by rw [HGR.out]; exact (TF.step hTF (fun k hk _ => set6_far (g := w.heap.size) (a0 := 0) (a1 := 1) (a2 := 2) (a3 := 3) (a4 := 4) (a5 := 5) (v0 := (.int .i64 t0)) (v1 := (.int .i64 t1)) (v2 := (.string t2)) (v3 := (.slice A3 t3.length c3)) (v4 := (.string t4)) (v5 := (.slice A5 t5.length c5)) k (by omega))).mono (fun k hk => by omega), hbF⟩
      · have h3 : ¬ (n : Int) < (l.length : Int) := by omega
        clear hlt hn25 hnl h1
        go_wp2_with fail
        have hfin := (blk_set (blk_set (blk_set (blk_set (blk_set (blk_set HX2.out 0 (.int .i64 t0)) 1 (.int .i64 t1)) 2 (.string t2)) 3 (.slice A3 t3.length c3)) 4 (.string t4)) 5 (.slice A5 t5.length c5))
        have hbF := ((((((HB.out.setCell (p := ⟨w.heap.size, 0, none⟩) (Nat.le_refl _) (.int .i64 t0)).setCell (p := ⟨w.heap.size, 1, none⟩) (Nat.le_refl _) (.int .i64 t1)).setCell (p := ⟨w.heap.size, 2, none⟩) (Nat.le_refl _) (.string t2)).setCell (p := ⟨w.heap.size, 3, none⟩) (Nat.le_refl _) (.slice A3 t3.length c3)).setCell (p := ⟨w.heap.size, 4, none⟩) (Nat.le_refl _) (.string t4)).setCell (p := ⟨w.heap.size, 5, none⟩) (Nat.le_refl _) (.slice A5 t5.length c5))
        exact ⟨rfl, _, res_tree hfin 2 _ rfl rfl, _, rfl, by rw [HGR.out]; exact (TF.step hTF (fun k hk _ => set6_far (g := w.heap.size) (a0 := 0) (a1 := 1) (a2 := 2) (a3 := 3) (a4 := 4) (a5 := 5) (v0 := (.int .i64 t0)) (v1 := (.int .i64 t1)) (v2 := (.string t2)) (v3 := (.slice A3 t3.length c3)) (v4 := (.string t4)) (v5 := (.slice A5 t5.length c5)) k (by omega))).mono (fun k hk => by omega), hbF⟩
end Go.Proofs.YteglfgmgpbablaaDoor.Cmp
