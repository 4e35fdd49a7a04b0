/- The walk of arbourlaw24.turned. -/
import Derived.Test.YteglfgmgpbablaaDoorCmpUnderT
namespace Go.Proofs.YteglfgmgpbablaaDoor.Cmp
open Go.RowKit Go.Proofs.YteglfgmgpbablaaDoor.PCompareTells Go.Proofs.YteglfgmgpbablaaDoorW.PrintWords Go.Proofs.YteglfgmgpbablaaDoorW.PrintLast
/-- The node at the end of a way has another text. -/
def turnL (s : ByteArray) : List Nat → S26 → S26
  | [], t => ⟨t.f0, t.f1, t.f2, t.f3, s, t.f5⟩
  | k :: r, t => ⟨t.f0, t.f1, t.f2, t.f3, t.f4, t.f5.set k (turnL s r (t.f5.getD k z26))⟩
def TurnAt (s : ByteArray) (n : Nat) : Prop := ∀ (way : List Nat) (t : S26) (vt : Value) (w : World) (ok : Nat → Prop) (Aw : Option Addr) (cw : Nat), way.length = n → ValidW way t → TF w ok vt t → W t ≤ 100000000 → way.length ≤ cw → kI.C w Aw (way.map Int.ofNat).length (way.map Int.ofNat) →
    Calls Tryd.prog 12 #[vt, .slice Aw way.length cw, .string s] w fun e w' => ∃ v, e = .returned v ∧ TF w' (fun k => ok k ∨ w.heap.size ≤ k) v (turnL s way t) ∧ Below w.heap.size w w'
set_option maxHeartbeats 20000000 in
set_option maxRecDepth 100000 in
theorem turn_zero (s : ByteArray) : TurnAt s 0 := by
  intro way t vt w ok Aw cw hl _ ht _ _ _
  have h0 : way = [] := List.eq_nil_of_length_eq_zero hl
  subst h0
  obtain ⟨A3, c3, A5, c5, rfl, l3, g3, l5, g5⟩ := ht.open_
  have b1 := below_alloc (Below.refl w.heap.size w) (.cells #[.int .i64 t.f0, .int .i64 t.f1, .string t.f2, .slice A3 t.f3.length c3, .string t.f4, .slice A5 t.f5.length c5] 26)
  have hs1 : (w.alloc (.cells #[.int .i64 t.f0, .int .i64 t.f1, .string t.f2, .slice A3 t.f3.length c3, .string t.f4, .slice A5 t.f5.length c5] 26)).heap.size = w.heap.size + 1 := by simp
  have hX1 := heap_alloc_new w (.cells #[.int .i64 t.f0, .int .i64 t.f1, .string t.f2, .slice A3 t.f3.length c3, .string t.f4, .slice A5 t.f5.length c5] 26)
  obtain ⟨w1, hw1⟩ : ∃ w1, w.alloc (.cells #[.int .i64 t.f0, .int .i64 t.f1, .string t.f2, .slice A3 t.f3.length c3, .string t.f4, .slice A5 t.f5.length c5] 26) = w1 := ⟨_, rfl⟩
  rw [hw1] at b1 hs1 hX1
  have b2 := below_alloc (Below.refl w1.heap.size w1) (.cells #[.int .i64 0, .int .i64 0, .string ⟨#[]⟩, .slice none 0 0, .string ⟨#[]⟩, .slice none 0 0] 26)
  have hX2 := heap_alloc_new w1 (.cells #[.int .i64 0, .int .i64 0, .string ⟨#[]⟩, .slice none 0 0, .string ⟨#[]⟩, .slice none 0 0] 26)
  have hs2 : (w1.alloc (.cells #[.int .i64 0, .int .i64 0, .string ⟨#[]⟩, .slice none 0 0, .string ⟨#[]⟩, .slice none 0 0] 26)).heap.size = w.heap.size + 2 := by simp [hs1]
  obtain ⟨w2, hw2⟩ : ∃ w2, w1.alloc (.cells #[.int .i64 0, .int .i64 0, .string ⟨#[]⟩, .slice none 0 0, .string ⟨#[]⟩, .slice none 0 0] 26) = w2 := ⟨_, rfl⟩
  rw [hw2] at b2 hX2 hs2
  rw [hs1] at hX2
  have HT := hide ((b2.block _ (by omega)).trans hX1)
  have HZ := hide hX2
  have HB := hide (below_step b1 b2)
  have HS1 := hide hs1
  have HS2 := hide hs2
  clear hX1 hX2 b1 b2 hs1 hs2
  have HF3 := hide g3
  have HF5 := hide g5
  have HL := hide (And.intro l3 l5)
  clear g3 g5 l3 l5 ht hl
  obtain ⟨t0, t1, t2, t3, t4, t5⟩ := t
  dsimp only at *
  rw [List.length_nil]
  have hX1' := blk_set HT.out 4 (.string s)
  have hX4f := blk_frozen HT.out 4
  have hX4 := cell_of_row _ _ 4 _ _ _ HT.out
  go_enter Tryd.func12, Tryd.ntmps12
  go_upto_region 3 with fail
  clear hw1 hw2
  rw [HS1.out]
  have hX2' := (Below.heap_setCell w2 ⟨w.heap.size, 4, none⟩ (.string s) (w.heap.size + 1) (by show w.heap.size + 1 ≠ w.heap.size; omega)).trans HZ.out
  have HB' := hide (HB.out.setCell (p := ⟨w.heap.size, 4, none⟩) (Nat.le_refl _) (.string s))
  obtain ⟨w3, hw3⟩ : ∃ w3, w2.setCell ⟨w.heap.size, 4, none⟩ (.string s) = w3 := ⟨_, rfl⟩
  rw [hw3] at hX1' hX2' HB' ⊢
  clear hw3 hX4 hX4f
  have HX2 := hide hX2'
  have a0 := cell_of_row _ _ 0 _ _ _ hX1'
  have a1 := cell_of_row _ _ 1 _ _ _ hX1'
  have a2 := cell_of_row _ _ 2 _ _ _ hX1'
  have a3 := cell_of_row _ _ 3 _ _ _ hX1'
  have a4 := cell_of_row _ _ 4 _ _ _ hX1'
  have a5 := cell_of_row _ _ 5 _ _ _ hX1'
  have b0 := cell_of_row _ _ 0 _ _ _ hX2'
  have b1 := cell_of_row _ _ 1 _ _ _ hX2'
  have b2 := cell_of_row _ _ 2 _ _ _ hX2'
  have b3 := cell_of_row _ _ 3 _ _ _ hX2'
  have b4 := cell_of_row _ _ 4 _ _ _ hX2'
  have b5 := cell_of_row _ _ 5 _ _ _ hX2'
  have f0 := blk_frozen hX2' 0
  have f1 := blk_frozen hX2' 1
  have f2 := blk_frozen hX2' 2
  have f3 := blk_frozen hX2' 3
  have f4 := blk_frozen hX2' 4
  have f5 := blk_frozen hX2' 5
  clear hX1' hX2'
  go_wp2_with fail
  have hfin := (blk_set (blk_set (blk_set (blk_set (blk_set (blk_set HX2.out 0 (.int .i64 t0)) 1 (.int .i64 t1)) 2 (.string t2)) 3 (.slice A3 t3.length c3)) 4 (.string s)) 5 (.slice A5 t5.length c5))
  have hbF := ((((((HB'.out.setCell (p := ⟨w.heap.size + 1, 0, none⟩) (Nat.le_succ _) (.int .i64 t0)).setCell (p := ⟨w.heap.size + 1, 1, none⟩) (Nat.le_succ _) (.int .i64 t1)).setCell (p := ⟨w.heap.size + 1, 2, none⟩) (Nat.le_succ _) (.string t2)).setCell (p := ⟨w.heap.size + 1, 3, none⟩) (Nat.le_succ _) (.slice A3 t3.length c3)).setCell (p := ⟨w.heap.size + 1, 4, none⟩) (Nat.le_succ _) (.string s)).setCell (p := ⟨w.heap.size + 1, 5, none⟩) (Nat.le_succ _) (.slice A5 t5.length c5))
  exact ⟨rfl, _, res_tree hfin 6 _ rfl rfl, _, rfl, TF.mk (⟨t0, t1, t2, t3, s, t5⟩ : S26) HL.out.1 (foot_on HF3.out hbF _) HL.out.2 (foot_on HF5.out hbF _), hbF⟩
set_option maxHeartbeats 20000000 in
set_option maxRecDepth 100000 in
theorem turn_succ (s : ByteArray) (n : Nat) (ih : TurnAt s n) : TurnAt s (n + 1) := by
  intro way t vt w ok Aw cw hl hv ht hW hcw hAw
  obtain ⟨k, r, rfl⟩ : ∃ k r, way = k :: r := by
    cases way with
    | nil => simp at hl
    | cons k r => exact ⟨k, r, rfl⟩
  have hkl := hv.1
  have HVR := hide hv.2
  have HLR_ := hide (show r.length = n by simpa using hl)
  obtain ⟨A3, c3, A5, c5, rfl, l3, g3, l5, g5⟩ := ht.open_
  obtain ⟨rs, hrs, hKL⟩ := C_raw (Kd.F_now g5)
  obtain ⟨K3, e3, K5, e5, hrk, hKT⟩ := kid_TF (KL_foot g5 hrs hKL) k hkl
  have HKT := hide hKT.bound
  have HRK := hide hrk
  have HKF := hide (KL_foot g5 hrs hKL)
  have HF3 := hide g3
  have b1 := below_alloc (Below.refl w.heap.size w) (.cells #[.int .i64 t.f0, .int .i64 t.f1, .string t.f2, .slice A3 t.f3.length c3, .string t.f4, .slice A5 t.f5.length c5] 26)
  have hs1 : (w.alloc (.cells #[.int .i64 t.f0, .int .i64 t.f1, .string t.f2, .slice A3 t.f3.length c3, .string t.f4, .slice A5 t.f5.length c5] 26)).heap.size = w.heap.size + 1 := by simp
  have hX1 := heap_alloc_new w (.cells #[.int .i64 t.f0, .int .i64 t.f1, .string t.f2, .slice A3 t.f3.length c3, .string t.f4, .slice A5 t.f5.length c5] 26)
  obtain ⟨w1, hw1⟩ : ∃ w1, w.alloc (.cells #[.int .i64 t.f0, .int .i64 t.f1, .string t.f2, .slice A3 t.f3.length c3, .string t.f4, .slice A5 t.f5.length c5] 26) = w1 := ⟨_, rfl⟩
  rw [hw1] at b1 hs1 hX1
  have b2 := below_alloc (Below.refl w1.heap.size w1) (.cells #[.int .i64 0, .int .i64 0, .string ⟨#[]⟩, .slice none 0 0, .string ⟨#[]⟩, .slice none 0 0] 26)
  have hX2 := heap_alloc_new w1 (.cells #[.int .i64 0, .int .i64 0, .string ⟨#[]⟩, .slice none 0 0, .string ⟨#[]⟩, .slice none 0 0] 26)
  have hs2 : (w1.alloc (.cells #[.int .i64 0, .int .i64 0, .string ⟨#[]⟩, .slice none 0 0, .string ⟨#[]⟩, .slice none 0 0] 26)).heap.size = w.heap.size + 2 := by simp [hs1]
  obtain ⟨w2, hw2⟩ : ∃ w2, w1.alloc (.cells #[.int .i64 0, .int .i64 0, .string ⟨#[]⟩, .slice none 0 0, .string ⟨#[]⟩, .slice none 0 0] 26) = w2 := ⟨_, rfl⟩
  rw [hw2] at b2 hX2 hs2
  rw [hs1] at hX2
  have HT := hide ((b2.block _ (by omega)).trans hX1)
  have HZ := hide hX2
  have HB := hide (below_step b1 b2)
  have HS1 := hide hs1
  have HS2 := hide hs2
  clear hX1 hX2 b1 b2 hs1 hs2
  have HRS := hide (Kd.C_below hrs HB.out)
  have HLR := hide hKL.len
  have HL := hide (And.intro l3 l5)
  have hkW := W_kid t k hkl
  have HWK := hide (show W (t.f5.getD k z26) ≤ 100000000 by omega)
  have hn5 : t.f5.length ≤ 100000000 := by have := W_eq t; have := WK_len t.f5; omega
  have hwl : r.length ≤ 100000000 := by have h1 := way_len' r _ hv.2; omega
  obtain ⟨aw, hA, hcell⟩ := hAw.2.2 (by simp)
  subst hA
  obtain ⟨_, _, hk0, hcell0⟩ := hcell 0 (Int.ofNat k) (by simp)
  have hcw1 : 1 ≤ cw := by have : (k :: r).length = r.length + 1 := rfl; omega
  obtain ⟨i3, hi3, hs3_⟩ : ∃ i, Tryd.prog.info? 3 = some i ∧ i.size = 1 := by
    obtain ⟨i0, hi, hzz⟩ := Option.map_eq_some_iff.1 info3
    simp only [Prod.mk.injEq] at hzz
    exact ⟨i0, hi, hzz.2.1⟩
  have hcut := cut_from (P := Tryd.prog) 31 3 .i64 Tryd.underlying31 hi3 1 hs3_ (some aw) (r.length + 1) cw (1 : Int) (by omega) (by omega)
  clear hs3_ hi3
  have hcr : kI.C w (if cw = 1 then some aw else (some aw).map (·.add 1)) (r.map Int.ofNat).length (r.map Int.ofNat) := by
    have h := Kd.C_drop (m := 1) (c := cw) hAw (by simp) (by simpa using hcw)
    exact h
  obtain ⟨Ar, hAr⟩ : ∃ Ar, (if cw = 1 then some aw else (some aw).map (·.add 1)) = Ar := ⟨_, rfl⟩
  rw [hAr] at hcr
  have hcut' : ∀ W : World, (Instr.slice 31 (.slice (some aw) (r.length + 1) cw) (some (.int .i64 1)) none none).run Tryd.prog W = .ok (.slice Ar r.length (cw - 1)) W := by
    rw [← hAr]
    exact hcut
  clear hcut hAr
  have HCR := hide hcr
  have HCW := hide (show r.length ≤ cw - 1 by have : (k :: r).length = r.length + 1 := rfl; omega)
  clear g3 g5 hrs hKL l3 l5 hW hcell hv hl hAw hcw hkW hKT hrk ht hcr
  have a5 : w2.cell? ⟨w.heap.size, 5, none⟩ = some (.slice A5 t.f5.length c5) := cell_of_row _ _ 5 _ _ _ HT.out
  have a5' : (w2.alloc (.cells #[] 26)).cell? ⟨w.heap.size, 5, none⟩ = some (.slice A5 t.f5.length c5) := cellW a5 (below_alloc (Below.refl _ _) _)
  have eaw : aw.add 0 = aw := by unfold Addr.add; split <;> simp_all
  have k0 : w.cell? aw = some (.int .i64 (k : Int)) := by
    rw [← eaw]
    exact hcell0 0 _ (by rw [show _ = [Value.int .i64 (Int.ofNat k)] from hk0]; rfl)
  clear hcell0 hk0 eaw
  have HK0 := hide k0
  clear k0
  have hlz : ((r.length : Int) + 1 == 0) = false := by rw [beq_eq_false_iff_ne]; omega
  obtain ⟨t0, t1, t2, t3, t4, t5⟩ := t
  dsimp only at *
  obtain ⟨⟨y0, y1, y2, y3, y4, y5⟩, hy⟩ : ∃ y, turnL s r (t5.getD k z26) = y := ⟨_, rfl⟩
  have hu : turnL s (k :: r) ⟨t0, t1, t2, t3, t4, t5⟩ = ⟨t0, t1, t2, t3, t4, t5.set k ⟨y0, y1, y2, y3, y4, y5⟩⟩ := by rw [turnL, hy]
  rw [hu]
  have HY := hide hy
  clear hy hu
  obtain ⟨⟨q0, q1, q2, q3, q4, q5⟩, hq⟩ : ∃ q, t5.getD k z26 = q := ⟨_, rfl⟩
  rw [hq] at HVR HKT HRK HWK HY
  dsimp only at HRK HKT
  clear hq
  go_enter Tryd.func12, Tryd.ntmps12
  go_upto_region 4 with fail
  clear hlz hw1 hw2
  rw [HS1.out]
  go_wp2_with (at_builtin; refine Kd.R_append_rows kRaw (Rr := kRaw.K w2) (w0 := w2) w2.heap.size rfl (.tmp 14) (.tmp 16) 24 26 (.agg #[.int .i64 0, .int .i64 0, .string ⟨#[]⟩, .slice none 0 0, .string ⟨#[]⟩, .slice none 0 0]) 96 rfl Tryd.underlying24 info26 rfl (by decide) (by decide) _ [] rs A5 t5.length c5 (fun _ => True) (fun _ => False) rfl rfl (lit0R w2 _ (Nat.le_refl _)) (by rw [HLR.out]; exact Kd.C_alloc HRS.out _) (fun _ _ h => kRaw_KM h) (fun k hk => hk.elim) (fun _ _ => trivial) (below_alloc (Below.refl _ _) _) (by simp) (by simp; omega) ?_; intro v1 wA ho hb hg hown; rw [List.nil_append] at ho; have HO1 := hide ho; have HBA := hide hb; clear ho hb hg hown)
  obtain ⟨g, cv, rfl, hgb, hglt, gc, hgc⟩ := Kd.R_form HO1.out (by rw [← HLR.out]; omega)
  rw [← HLR.out]
  obtain ⟨z0, z1, z2, z3, z4, z5⟩ := raw_cells (Kd.R_reads' HO1.out).2.2 k _ HRK.out
  dsimp only at z0 z1 z2 z3 z4 z5
  have HGB := hide hgb
  have HGL := hide hglt
  have HGC := hide hgc
  have b0A : Below w.heap.size w wA := below_step HB.out HBA.out
  have HB0 := hide b0A
  have k0 := cellW HK0.out b0A
  have hlz2 : (0 : Int) < (r.length : Int) + 1 := by omega
  have HC := hide (fun (W' : World) (hW' : Below w.heap.size w W') => ih r ⟨q0, q1, q2, q3, q4, q5⟩ _ W' (fun k => ok k ∧ k < w.heap.size) _ (cw - 1) HLR_.out HVR.out (HKT.out.below hW') HWK.out HCW.out (Kd.C_below HCR.out hW'))
  clear b0A hgb hglt hgc a5 a5'
  go_upto_region 5 with fail
  first
  | go_region_with (go_at_call 12; (with_reducible refine (HC.out (wA.drew) HB0.out.drew).mono ?_); rintro e wn ⟨v, rfl, hT, hB⟩; rw [HY.out] at hT; obtain ⟨N3, n3, N5, n5, rfl, -⟩ := hT.open_; have hbn := below_step ((Below.refl wA.heap.size wA).drew) hB; have HTN := hide (hT.mono (ok' := fun q => (ok q ∧ q < w.heap.size) ∨ wA.heap.size ≤ q) (fun q hq => hq)); have HBN := hide hbn; have hgn := (hbn.block _ HGL.out).trans HGC.out; have k9 := cellW k0 hbn; have p0 := cellW z0 hbn; have p1 := cellW z1 hbn; have p2 := cellW z2 hbn; have p3 := cellW z3 hbn; have p4 := cellW z4 hbn; have p5 := cellW z5 hbn; have o0 := blk_frozen hgn (k * 6); have o1 := blk_frozen hgn (k * 6 + 1); have o2 := blk_frozen hgn (k * 6 + 2); have o3 := blk_frozen hgn (k * 6 + 3); have o4 := blk_frozen hgn (k * 6 + 4); have o5 := blk_frozen hgn (k * 6 + 5); clear hT hB hbn hgn)
  | fail
  all_goals (
    go_upto_region 6 with fail
    have hR := Kd.R_below HO1.out HBN.out
    have hkr : k < rs.length := by rw [← HLR.out]; exact hkl
    have h := (Kd.R_seg (d := kRaw) hR (k : Int) (by omega) (by omega) (c := [.int .i64 q0, .int .i64 q1, .string q2, .slice K3 q3.length e3, .string q4, .slice K5 q5.length e5]) (seg := [.int .i64 y0, .int .i64 y1, .string y2, .slice N3 y3.length n3, .string y4, .slice N5 y5.length n5]) (j := 0) rfl (fun j u hu => by
      show wn.cell? ⟨g, k * 6 + j, none⟩ = some u
      match j, hu with
      | 0, hu => cases hu; exact p0
      | 1, hu => cases hu; exact p1
      | 2, hu => cases hu; exact p2
      | 3, hu => cases hu; exact p3
      | 4, hu => cases hu; exact p4
      | 5, hu => cases hu; exact p5) (Nat.le_refl 6) (x' := rawT ⟨y0, y1, y2, y3, y4, y5⟩ N3 n3 N5 n5) (okp := fun _ => False) (kRaw_M _ _ _ _) (fun k hk => hk.elim)).1
    rw [← HLR.out] at h
    have h1 := HGB.out
    have h2 := HS2.out
    have h3 := HGL.out
    have hle : w.heap.size ≤ g := by omega
    have hg3 : ∀ q, (ok q ∧ q < w.heap.size) ∨ wA.heap.size ≤ q → q ≠ g := fun q hq => by
      rcases hq with hq | hq <;> omega
    have hX3 := (set6_far (g := g) (a0 := k * 6) (a1 := k * 6 + 1) (a2 := k * 6 + 2) (a3 := k * 6 + 3) (a4 := k * 6 + 4) (a5 := k * 6 + 5) (v0 := (.int .i64 y0)) (v1 := (.int .i64 y1)) (v2 := (.string y2)) (v3 := (.slice N3 y3.length n3)) (v4 := (.string y4)) (v5 := (.slice N5 y5.length n5))  w.heap.size (by omega)).trans ((HBN.out.block _ (blk_lt ((HBA.out.block _ (blk_lt HT.out)).trans HT.out))).trans ((HBA.out.block _ (blk_lt HT.out)).trans HT.out))
    have hX6 := (set6_far (g := g) (a0 := k * 6) (a1 := k * 6 + 1) (a2 := k * 6 + 2) (a3 := k * 6 + 3) (a4 := k * 6 + 4) (a5 := k * 6 + 5) (v0 := (.int .i64 y0)) (v1 := (.int .i64 y1)) (v2 := (.string y2)) (v3 := (.slice N3 y3.length n3)) (v4 := (.string y4)) (v5 := (.slice N5 y5.length n5))  (w.heap.size + 1) (by omega)).trans ((HBN.out.block _ (blk_lt ((HBA.out.block _ (blk_lt HZ.out)).trans HZ.out))).trans ((HBA.out.block _ (blk_lt HZ.out)).trans HZ.out))
    have hTY := HTN.out.step (fun q hq _ => set6_far (g := g) (a0 := k * 6) (a1 := k * 6 + 1) (a2 := k * 6 + 2) (a3 := k * 6 + 3) (a4 := k * 6 + 4) (a5 := k * 6 + 5) (v0 := (.int .i64 y0)) (v1 := (.int .i64 y1)) (v2 := (.string y2)) (v3 := (.slice N3 y3.length n3)) (v4 := (.string y4)) (v5 := (.slice N5 y5.length n5))  q (hg3 q hq))
    have hBz := (((((((below_step HB0.out HBN.out).setCell (p := ⟨g, k * 6, none⟩) hle (.int .i64 y0)).setCell (p := ⟨g, k * 6 + 1, none⟩) hle (.int .i64 y1)).setCell (p := ⟨g, k * 6 + 2, none⟩) hle (.string y2)).setCell (p := ⟨g, k * 6 + 3, none⟩) hle (.slice N3 y3.length n3)).setCell (p := ⟨g, k * 6 + 4, none⟩) hle (.string y4)).setCell (p := ⟨g, k * 6 + 5, none⟩) hle (.slice N5 y5.length n5))
    obtain ⟨wz, hwz⟩ : ∃ wz, ((((((wn.setCell ⟨g, k * 6, none⟩ (.int .i64 y0)).setCell ⟨g, k * 6 + 1, none⟩ (.int .i64 y1)).setCell ⟨g, k * 6 + 2, none⟩ (.string y2)).setCell ⟨g, k * 6 + 3, none⟩ (.slice N3 y3.length n3)).setCell ⟨g, k * 6 + 4, none⟩ (.string y4)).setCell ⟨g, k * 6 + 5, none⟩ (.slice N5 y5.length n5)) = wz := ⟨_, rfl⟩
    have h' : kRaw.R 26 wz w2.heap.size (fun _ => True) (.slice (some ⟨g, 0, none⟩) t5.length cv) (rs.set k (rawT ⟨y0, y1, y2, y3, y4, y5⟩ N3 n3 N5 n5)) := by rw [← hwz]; exact h
    rw [hwz] at hX3 hX6 hTY hBz ⊢
    clear hwz h hR p0 p1 p2 p3 p4 p5 z0 z1 z2 z3 z4 z5 k0
    have c5_ := cell_of_row _ _ 5 _ _ _ hX3
    have d5_ := blk_frozen hX3 5
    go_upto_region 7 with fail
    have n6 : w.heap.size + 1 ≠ w.heap.size := by omega
    have fX3 := blk_set hX3 5 (.slice (some ⟨g, 0, none⟩) t5.length cv)
    have fX6 := (Below.heap_setCell wz ⟨w.heap.size, 5, none⟩ (.slice (some ⟨g, 0, none⟩) t5.length cv) _ n6).trans hX6
    have fR := Kd.R_step (Kd.R_bound h') (fun q hq _ => Below.heap_setCell wz ⟨w.heap.size, 5, none⟩ (.slice (some ⟨g, 0, none⟩) t5.length cv) q (by have h9 := hq.2.1; show q ≠ w.heap.size; omega))
    have fTY := hTY.step (fun q hq _ => Below.heap_setCell wz ⟨w.heap.size, 5, none⟩ (.slice (some ⟨g, 0, none⟩) t5.length cv) q (by show q ≠ w.heap.size; rcases hq with hq | hq <;> omega))
    have fB := hBz.setCell (p := ⟨w.heap.size, 5, none⟩) (Nat.le_refl _) (.slice (some ⟨g, 0, none⟩) t5.length cv)
    obtain ⟨wy, hwy⟩ : ∃ wy, wz.setCell ⟨w.heap.size, 5, none⟩ (.slice (some ⟨g, 0, none⟩) t5.length cv) = wy := ⟨_, rfl⟩
    rw [hwy] at fX3 fX6 fR fTY fB ⊢
    clear hwy c5_ d5_ h' hX3 hX6 hTY hBz
    have HX6 := hide fX6
    have HR6 := hide (Kd.R_bound fR)
    have HTY := hide fTY
    have HB6 := hide fB
    have a0 := cell_of_row _ _ 0 _ _ _ fX3
    have a1 := cell_of_row _ _ 1 _ _ _ fX3
    have a2 := cell_of_row _ _ 2 _ _ _ fX3
    have a3 := cell_of_row _ _ 3 _ _ _ fX3
    have a4 := cell_of_row _ _ 4 _ _ _ fX3
    have a5 := cell_of_row _ _ 5 _ _ _ fX3
    have b_0 := cell_of_row _ _ 0 _ _ _ fX6
    have b_1 := cell_of_row _ _ 1 _ _ _ fX6
    have b_2 := cell_of_row _ _ 2 _ _ _ fX6
    have b_3 := cell_of_row _ _ 3 _ _ _ fX6
    have b_4 := cell_of_row _ _ 4 _ _ _ fX6
    have b_5 := cell_of_row _ _ 5 _ _ _ fX6
    have f0 := blk_frozen fX6 0
    have f1 := blk_frozen fX6 1
    have f2 := blk_frozen fX6 2
    have f3 := blk_frozen fX6 3
    have f4 := blk_frozen fX6 4
    have f5 := blk_frozen fX6 5

    clear fX3 fX6 fR fTY fB hg3
    go_wp2_with fail
    have hfin := (blk_set (blk_set (blk_set (blk_set (blk_set (blk_set HX6.out 0 (.int .i64 t0)) 1 (.int .i64 t1)) 2 (.string t2)) 3 (.slice A3 t3.length c3)) 4 (.string t4)) 5 (.slice (some ⟨g, 0, none⟩) t5.length cv))
    have hbF := ((((((HB6.out.setCell (p := ⟨w.heap.size + 1, 0, none⟩) (Nat.le_succ _) (.int .i64 t0)).setCell (p := ⟨w.heap.size + 1, 1, none⟩) (Nat.le_succ _) (.int .i64 t1)).setCell (p := ⟨w.heap.size + 1, 2, none⟩) (Nat.le_succ _) (.string t2)).setCell (p := ⟨w.heap.size + 1, 3, none⟩) (Nat.le_succ _) (.slice A3 t3.length c3)).setCell (p := ⟨w.heap.size + 1, 4, none⟩) (Nat.le_succ _) (.string t4)).setCell (p := ⟨w.heap.size + 1, 5, none⟩) (Nat.le_succ _) (.slice (some ⟨g, 0, none⟩) t5.length cv))
    have hRF := Kd.R_step HR6.out (fun q hq _ => set6_far (g := w.heap.size + 1) (a0 := 0) (a1 := 1) (a2 := 2) (a3 := 3) (a4 := 4) (a5 := 5) (v0 := (.int .i64 t0)) (v1 := (.int .i64 t1)) (v2 := (.string t2)) (v3 := (.slice A3 t3.length c3)) (v4 := (.string t4)) (v5 := (.slice (some ⟨g, 0, none⟩) t5.length cv))  q (by have h9 := hq.2.1; omega))
    have hTyF := (HTY.out.step (fun q hq _ => set6_far (g := w.heap.size + 1) (a0 := 0) (a1 := 1) (a2 := 2) (a3 := 3) (a4 := 4) (a5 := 5) (v0 := (.int .i64 t0)) (v1 := (.int .i64 t1)) (v2 := (.string t2)) (v3 := (.slice A3 t3.length c3)) (v4 := (.string t4)) (v5 := (.slice (some ⟨g, 0, none⟩) t5.length cv))  q (by rcases hq with hq | hq <;> omega))).mono (ok' := fun q => ok q ∨ w.heap.size ≤ q) (fun q hq => hq.imp (fun h => h.1) (fun h => by omega))
    have hcv := (Kd.R_reads' hRF).2.1
    have hTT := TF.mk (A3 := A3) (c3 := c3) (A5 := some ⟨g, 0, none⟩) (c5 := cv) (⟨t0, t1, t2, t3, t4, t5.set k ⟨y0, y1, y2, y3, y4, y5⟩⟩ : S26) HL.out.1 (foot_on HF3.out hbF w.heap.size) (by rw [List.length_set]; exact hcv) (F_raw (Kd.F_mono (Kd.R_F hRF) (fun q hq => .inr (by have h9 := hq.2.1; omega))) (KL_set (foot_on HKF.out hbF w.heap.size) k hTyF))
    dsimp only at hTT
    rw [List.length_set] at hTT
    exact ⟨rfl, _, res_tree hfin 6 _ rfl rfl, _, rfl, hTT, hbF⟩)
theorem turn_at (s : ByteArray) : ∀ n, TurnAt s n
  | 0 => turn_zero s
  | n + 1 => turn_succ s n (turn_at s n)
end Go.Proofs.YteglfgmgpbablaaDoor.Cmp
