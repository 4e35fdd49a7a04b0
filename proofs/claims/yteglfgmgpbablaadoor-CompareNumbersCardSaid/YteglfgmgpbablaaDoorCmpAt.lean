/- The walk of compare.At. -/
import Derived.Test.YteglfgmgpbablaaDoorCmpCopy
import Derived.Test.YteglfgmgpbablaaDoorCmpText
namespace Go.Proofs.YteglfgmgpbablaaDoor.Cmp
open Go.RowKit Go.Proofs.YteglfgmgpbablaaDoor.PCompareTells Go.Proofs.YteglfgmgpbablaaDoorW.PrintWords Go.Proofs.YteglfgmgpbablaaDoorW.PrintLast
/-- The node at the end of a way. -/
def atL : List Int → S26 → Option S26
  | [], t => some t
  | n :: r, t => if 0 ≤ n ∧ n < t.f5.length then atL r (t.f5.getD n.toNat z26) else none
theorem kid_read {w : World} {ok : Nat → Prop} {A : Option Addr} {xs : List S26} (h : Kd.F k26 w ok A xs.length xs) (j : Nat) (hj : j < xs.length) : ∃ ad K3 e3 K5 e5, A = some ad ∧ w.cell? (ad.add (j * 6)) = some (.int .i64 (xs.getD j z26).f0) ∧ w.cell? ⟨(ad.add (j * 6)).block, (ad.add (j * 6)).off + 1, none⟩ = some (.int .i64 (xs.getD j z26).f1) ∧ w.cell? ⟨(ad.add (j * 6)).block, (ad.add (j * 6)).off + 2, none⟩ = some (.string (xs.getD j z26).f2) ∧ w.cell? ⟨(ad.add (j * 6)).block, (ad.add (j * 6)).off + 3, none⟩ = some (.slice K3 (xs.getD j z26).f3.length e3) ∧ w.cell? ⟨(ad.add (j * 6)).block, (ad.add (j * 6)).off + 4, none⟩ = some (.string (xs.getD j z26).f4) ∧ w.cell? ⟨(ad.add (j * 6)).block, (ad.add (j * 6)).off + 5, none⟩ = some (.slice K5 (xs.getD j z26).f5.length e5) ∧ TF w ok (.agg #[.int .i64 (xs.getD j z26).f0, .int .i64 (xs.getD j z26).f1, .string (xs.getD j z26).f2, .slice K3 (xs.getD j z26).f3.length e3, .string (xs.getD j z26).f4, .slice K5 (xs.getD j z26).f5.length e5]) (xs.getD j z26) := by
  have hx : xs[j]? = some (xs.getD j z26) := by simp [List.getD, List.getElem?_eq_getElem hj]
  obtain ⟨ad, hA, _⟩ := (Kd.F_now h).2.2 (by omega)
  subst hA
  obtain ⟨K3, e3, K5, e5, h0, h1, h2, h3, h4, h5, -, -, -, -⟩ := kid_TAt (Kd.F_now h) j _ hx
  refine ⟨ad, K3, e3, K5, e5, rfl, h0, h1, h2, h3, h4, h5, fun V hV => ?_⟩
  have hin := Kd.F_in h rfl (by omega) (by show 0 < 6; omega)
  have hlt := Kd.C_lt (Kd.F_now h) (by omega) (by show 0 < 6; omega)
  obtain ⟨L3, f3, L5, f5, i0, i1, i2, i3, i4, i5, m3, n3, m5, n5⟩ := kid_TAt (h V hV) j _ hx
  have hbk : (ad.add (j * 6)).block = ad.block := by unfold Addr.add; split <;> rfl
  have hs := hV _ hin hlt
  have k3 := cell_blk (w' := w) i3 (by show w.heap[(ad.add (j * 6)).block]? = V.heap[(ad.add (j * 6)).block]?; rw [hbk]; exact hs.symm)
  have k5 := cell_blk (w' := w) i5 (by show w.heap[(ad.add (j * 6)).block]? = V.heap[(ad.add (j * 6)).block]?; rw [hbk]; exact hs.symm)
  rw [h3] at k3
  rw [h5] at k5
  simp only [Option.some.injEq, Value.slice.injEq, true_and] at k3 k5
  obtain ⟨rfl, rfl⟩ := k3
  obtain ⟨rfl, rfl⟩ := k5
  exact ⟨_, _, _, _, rfl, m3, n3, m5, n5⟩
/-- At the loop's head. -/
def AtRel (ok : Nat → Prop) (w : World) (path : List Int) (R : Option S26) (k : Nat) (wr : World) : Prop := ∃ (c : S26) (A3 : Option Addr) (c3 : Nat) (A5 : Option Addr) (c5 : Nat), R = atL (path.drop k) c ∧ W c ≤ 100000000 ∧ AL 100000000 c ∧ wr.heap[w.heap.size]? = some (.cells #[.int .i64 c.f0, .int .i64 c.f1, .string c.f2, .slice A3 c.f3.length c3, .string c.f4, .slice A5 c.f5.length c5] 26 (0, 0)) ∧ TF wr (fun k => ok k ∧ k < w.heap.size) (.agg #[.int .i64 c.f0, .int .i64 c.f1, .string c.f2, .slice A3 c.f3.length c3, .string c.f4, .slice A5 c.f5.length c5]) c ∧ wr.heap[w.heap.size + 1]? = some (.cells #[.int .i64 0, .int .i64 0, .string ⟨#[]⟩, .slice none 0 0, .string ⟨#[]⟩, .slice none 0 0] 26 (0, 0)) ∧ Below w.heap.size w wr
set_option maxHeartbeats 20000000 in
set_option maxRecDepth 100000 in
theorem at_ (t : S26) (vt : Value) (A : Option Addr) (cp : Nat) (path : List Int) (w : World) (ok : Nat → Prop) (ht : TF w ok vt t) (hp : kI.C w A path.length path) (hW : W t ≤ 100000000) (hA : AL 100000000 t) :
    Calls Tryd.prog 15 #[vt, .slice A path.length cp] w fun e w' => ∃ v, e = .returned (.tuple #[v, .bool (atL path t).isSome]) ∧ TF w' (fun k => ok k ∨ w.heap.size ≤ k) v ((atL path t).getD z26) ∧ Below w.heap.size w w' := by
  have htb := ht.bound
  obtain ⟨R, hR⟩ : ∃ R, atL path t = R := ⟨_, rfl⟩
  rw [hR]
  obtain ⟨A3, c3, A5, c5, rfl, -⟩ := ht.open_
  have b1 := below_alloc (Below.refl w.heap.size w) (.cells #[.int .i64 t.f0, .int .i64 t.f1, .string t.f2, .slice A3 t.f3.length c3, .string t.f4, .slice A5 t.f5.length c5] 26)
  have hs1 : (w.alloc (.cells #[.int .i64 t.f0, .int .i64 t.f1, .string t.f2, .slice A3 t.f3.length c3, .string t.f4, .slice A5 t.f5.length c5] 26)).heap.size = w.heap.size + 1 := by simp
  have hX1 := heap_alloc_new w (.cells #[.int .i64 t.f0, .int .i64 t.f1, .string t.f2, .slice A3 t.f3.length c3, .string t.f4, .slice A5 t.f5.length c5] 26)
  obtain ⟨w1, hw1⟩ : ∃ w1, w.alloc (.cells #[.int .i64 t.f0, .int .i64 t.f1, .string t.f2, .slice A3 t.f3.length c3, .string t.f4, .slice A5 t.f5.length c5] 26) = w1 := ⟨_, rfl⟩
  rw [hw1] at b1 hs1 hX1
  have b2 := below_alloc (Below.refl w1.heap.size w1) (.cells #[.int .i64 0, .int .i64 0, .string ⟨#[]⟩, .slice none 0 0, .string ⟨#[]⟩, .slice none 0 0] 26)
  have hX2 := heap_alloc_new w1 (.cells #[.int .i64 0, .int .i64 0, .string ⟨#[]⟩, .slice none 0 0, .string ⟨#[]⟩, .slice none 0 0] 26)
  obtain ⟨w2, hw2⟩ : ∃ w2, w1.alloc (.cells #[.int .i64 0, .int .i64 0, .string ⟨#[]⟩, .slice none 0 0, .string ⟨#[]⟩, .slice none 0 0] 26) = w2 := ⟨_, rfl⟩
  rw [hw2] at b2 hX2
  rw [hs1] at hX2
  have hX1' := (b2.block _ (by omega)).trans hX1
  have hB2 := below_step b1 b2
  have HR := hide (show AtRel ok w path R 0 w2 from ⟨t, A3, c3, A5, c5, hR.symm, hW, hA, hX1', htb.below hB2, hX2, hB2⟩)
  have HPC := hide hp
  have HS1 := hide hs1
  have hpl := hp.2.1
  have HPL := hide hpl
  clear hX1 hX1' hX2 hB2 b1 b2 ht htb hs1 hW hA hp hpl hR
  go_enter Tryd.func15, Tryd.ntmps15
  go_wp2_with fail
  clear hw1 hw2
  rw [HS1.out]
  go_loopw [7, 10] (fun _ i wr => ∃ k : Nat, k ≤ path.length ∧ i = .int .i64 (k : Int) ∧ Aside0 (AtRel ok w path R k wr)) (fun _ i _ => path.length - (intOf i).toNat)
  case atStart => exact ⟨0, Nat.zero_le _, rfl, ⟨HR.out⟩⟩
  case round =>
    clear HR
    obtain ⟨k, hk, rfl, hrel⟩ := hrel
    obtain ⟨c, E3, e3, E5, e5, heq, hWc, hAc, hX1, hT, hX2, hB⟩ := hrel.out
    clear hrel
    obtain ⟨T0, T1, T2, T3, T4, T5⟩ := c
    dsimp only at hX1 hT
    have HX1 := hide hX1
    have HX2 := hide hX2
    have HT := hide hT
    have HB := hide hB
    have HWc := hide hWc
    have HAc := hide hAc
    have a5 := cell_of_row _ _ 5 _ _ _ hX1
    by_cases hlt : k < path.length
    · have hpl := HPL.out
      obtain ⟨ad, hA', hcc⟩ := ints_at (Kd.C_below HPC.out hB) k hlt
      obtain ⟨n, hn⟩ : ∃ n, path.getD k 0 = n := ⟨_, rfl⟩
      have hdr : path.drop k = n :: path.drop (k + 1) := by
        rw [List.drop_eq_getElem_cons hlt, ← hn]
        simp [List.getD, hlt]
      rw [hn] at hcc
      rw [hdr, atL] at heq
      subst hA'
      dsimp only at heq
      have k1 : (k : Int) < (path.length : Int) := by omega
      have k2 : (0 : Int) ≤ (k : Int) := by omega
      clear hn hdr
      by_cases hr : 0 ≤ n ∧ n < T5.length
      · rw [if_pos hr] at heq
        obtain ⟨j, rfl⟩ : ∃ j : Nat, n = (j : Int) := ⟨n.toNat, by omega⟩
        have hj : j < T5.length := by omega
        rw [Int.toNat_natCast] at heq
        obtain ⟨_, _, _, _, e9, -, -, -, g5⟩ := hT.open_
        injection e9 with e9
        injection e9 with e9
        simp only [List.cons.injEq, Value.slice.injEq] at e9
        obtain ⟨-, -, -, ⟨rfl, -, rfl⟩, -, ⟨rfl, -, rfl⟩, -⟩ := e9
        obtain ⟨ak, K3, k3, K5, k5, hak, h0, h1, h2, h3, h4, h5, hTk⟩ := kid_read g5 j hj
        subst hak
        have hWk := W_kid ⟨T0, T1, T2, T3, T4, T5⟩ j hj
        have hAk : AL 100000000 (T5.getD j z26) := by
          have h := HAc.out
          rw [AL_eq] at h
          exact ALK_at _ T5 j hj h.2
        have HWk := hide (show W (T5.getD j z26) ≤ 100000000 by have := HWc.out; dsimp only at hWk; omega)
        have HAk := hide hAk
        have HTk := hide hTk
        have HEQ := hide heq
        clear heq hTk hWk hAk g5 hT
        obtain ⟨⟨Q0, Q1, Q2, Q3, Q4, Q5⟩, hq⟩ : ∃ q, T5.getD j z26 = q := ⟨_, rfl⟩
        rw [hq] at h0 h1 h2 h3 h4 h5 HTk HEQ HWk HAk
        dsimp only at h0 h1 h2 h3 h4 h5 HTk
        clear hq
        have c0 := cell_of_row _ _ 0 _ _ _ hX1
        have c1 := cell_of_row _ _ 1 _ _ _ hX1
        have c2 := cell_of_row _ _ 2 _ _ _ hX1
        have c3_ := cell_of_row _ _ 3 _ _ _ hX1
        have c4 := cell_of_row _ _ 4 _ _ _ hX1
        have f0 := blk_frozen hX1 0
        have f1 := blk_frozen hX1 1
        have f2 := blk_frozen hX1 2
        have f3 := blk_frozen hX1 3
        have f4 := blk_frozen hX1 4
        have f5 := blk_frozen hX1 5
        have i1 : (j : Int) < (T5.length : Int) := by omega
        have i2 : ¬ (j : Int) < 0 := by omega
        have i3 : (0 : Int) ≤ (j : Int) := by omega
        have i4 : ¬ T5.length ≤ j := by omega
        have i5 : ¬ (T5.length : Int) ≤ (j : Int) := by omega
        clear hX1 hX2 hB hr hWc hAc
        go_wp2_with fail
        go_roundw
        case rel => exact ⟨k + 1, by omega, by go_num, ⟨⟨Q0, Q1, Q2, Q3, Q4, Q5⟩, K3, k3, K5, k5, HEQ.out, HWk.out, HAk.out, (blk_set (blk_set (blk_set (blk_set (blk_set (blk_set HX1.out 0 (.int .i64 Q0)) 1 (.int .i64 Q1)) 2 (.string Q2)) 3 (.slice K3 Q3.length k3)) 4 (.string Q4)) 5 (.slice K5 Q5.length k5)), HTk.out.step (fun k hk _ => set6_far (g := w.heap.size) (a0 := 0) (a1 := 1) (a2 := 2) (a3 := 3) (a4 := 4) (a5 := 5) (v0 := (.int .i64 Q0)) (v1 := (.int .i64 Q1)) (v2 := (.string Q2)) (v3 := (.slice K3 Q3.length k3)) (v4 := (.string Q4)) (v5 := (.slice K5 Q5.length k5)) k (by have := hk.2; omega)), (set6_far (g := w.heap.size) (a0 := 0) (a1 := 1) (a2 := 2) (a3 := 3) (a4 := 4) (a5 := 5) (v0 := (.int .i64 Q0)) (v1 := (.int .i64 Q1)) (v2 := (.string Q2)) (v3 := (.slice K3 Q3.length k3)) (v4 := (.string Q4)) (v5 := (.slice K5 Q5.length k5)) _ (by omega)).trans HX2.out, ((((((HB.out.setCell (p := ⟨w.heap.size, 0, none⟩) (Nat.le_refl _) (.int .i64 Q0)).setCell (p := ⟨w.heap.size, 1, none⟩) (Nat.le_refl _) (.int .i64 Q1)).setCell (p := ⟨w.heap.size, 2, none⟩) (Nat.le_refl _) (.string Q2)).setCell (p := ⟨w.heap.size, 3, none⟩) (Nat.le_refl _) (.slice K3 Q3.length k3)).setCell (p := ⟨w.heap.size, 4, none⟩) (Nat.le_refl _) (.string Q4)).setCell (p := ⟨w.heap.size, 5, none⟩) (Nat.le_refl _) (.slice K5 Q5.length k5))⟩⟩
        case measure => simp [intOf]; omega
      · rw [if_neg hr] at heq
        have x0 := cell_of_row _ _ 0 _ _ _ hX2
        have x1 := cell_of_row _ _ 1 _ _ _ hX2
        have x2 := cell_of_row _ _ 2 _ _ _ hX2
        have x3 := cell_of_row _ _ 3 _ _ _ hX2
        have x4 := cell_of_row _ _ 4 _ _ _ hX2
        have x5 := cell_of_row _ _ 5 _ _ _ hX2
        have f0 := blk_frozen hX2 0
        have f1 := blk_frozen hX2 1
        have f2 := blk_frozen hX2 2
        have f3 := blk_frozen hX2 3
        have f4 := blk_frozen hX2 4
        have f5 := blk_frozen hX2 5
        subst heq
        clear hX1 hX2 hB hT hWc hAc
        by_cases hn0 : n < 0
        · clear hr
          go_wp2_with fail
          have hfin := (blk_set (blk_set (blk_set (blk_set (blk_set (blk_set HX2.out 0 (.int .i64 0)) 1 (.int .i64 0)) 2 (.string ⟨#[]⟩)) 3 (.slice none 0 0)) 4 (.string ⟨#[]⟩)) 5 (.slice none 0 0))
          exact ⟨rfl, _, res_tree2 hfin 4 5 _ rfl rfl rfl, _, rfl, fun _ _ => ⟨none, 0, none, 0, rfl, Nat.le_refl _, Kd.C_nil _ _, Nat.le_refl _, Kd.C_nil _ _⟩, ((((((HB.out.setCell (p := ⟨w.heap.size + 1, 0, none⟩) (Nat.le_succ _) (.int .i64 0)).setCell (p := ⟨w.heap.size + 1, 1, none⟩) (Nat.le_succ _) (.int .i64 0)).setCell (p := ⟨w.heap.size + 1, 2, none⟩) (Nat.le_succ _) (.string ⟨#[]⟩)).setCell (p := ⟨w.heap.size + 1, 3, none⟩) (Nat.le_succ _) (.slice none 0 0)).setCell (p := ⟨w.heap.size + 1, 4, none⟩) (Nat.le_succ _) (.string ⟨#[]⟩)).setCell (p := ⟨w.heap.size + 1, 5, none⟩) (Nat.le_succ _) (.slice none 0 0))⟩
        · have hn1 : (T5.length : Int) ≤ n := by omega
          clear hr
          go_wp2_with fail
          have hfin := (blk_set (blk_set (blk_set (blk_set (blk_set (blk_set HX2.out 0 (.int .i64 0)) 1 (.int .i64 0)) 2 (.string ⟨#[]⟩)) 3 (.slice none 0 0)) 4 (.string ⟨#[]⟩)) 5 (.slice none 0 0))
          exact ⟨rfl, _, res_tree2 hfin 4 5 _ rfl rfl rfl, _, rfl, fun _ _ => ⟨none, 0, none, 0, rfl, Nat.le_refl _, Kd.C_nil _ _, Nat.le_refl _, Kd.C_nil _ _⟩, ((((((HB.out.setCell (p := ⟨w.heap.size + 1, 0, none⟩) (Nat.le_succ _) (.int .i64 0)).setCell (p := ⟨w.heap.size + 1, 1, none⟩) (Nat.le_succ _) (.int .i64 0)).setCell (p := ⟨w.heap.size + 1, 2, none⟩) (Nat.le_succ _) (.string ⟨#[]⟩)).setCell (p := ⟨w.heap.size + 1, 3, none⟩) (Nat.le_succ _) (.slice none 0 0)).setCell (p := ⟨w.heap.size + 1, 4, none⟩) (Nat.le_succ _) (.string ⟨#[]⟩)).setCell (p := ⟨w.heap.size + 1, 5, none⟩) (Nat.le_succ _) (.slice none 0 0))⟩
    · have hkl : k = path.length := by omega
      rw [List.drop_eq_nil_of_le (by omega), atL] at heq
      have hnk : ¬ (k : Int) < (path.length : Int) := by omega
      have c0 := cell_of_row _ _ 0 _ _ _ hX1
      have c1 := cell_of_row _ _ 1 _ _ _ hX1
      have c2 := cell_of_row _ _ 2 _ _ _ hX1
      have c3_ := cell_of_row _ _ 3 _ _ _ hX1
      have c4 := cell_of_row _ _ 4 _ _ _ hX1
      subst heq
      clear hX1 hX2 hB hT hWc hAc hlt hkl
      go_wp2_with fail
      refine (copy _ _ wr _ HT.out HWc.out HAc.out).mono ?_
      rintro e w' ⟨v, rfl, hTc, hBc⟩
      obtain ⟨G3, g3, G5, g5, rfl, -⟩ := hTc.open_
      dsimp only
      have hX2 := (hBc.block _ (blk_lt HX2.out)).trans HX2.out
      have HX2' := hide hX2
      have hle := HB.out.size
      have hlx := blk_lt HX2.out
      have HTC := hide (hTc.mono (ok' := fun q => (ok q ∧ q < w.heap.size) ∨ wr.heap.size ≤ q) (fun q hq => hq))
      have HBC := hide (below_step HB.out hBc)
      have x0 := cell_of_row _ _ 0 _ _ _ hX2
      have x1 := cell_of_row _ _ 1 _ _ _ hX2
      have x2 := cell_of_row _ _ 2 _ _ _ hX2
      have x3 := cell_of_row _ _ 3 _ _ _ hX2
      have x4 := cell_of_row _ _ 4 _ _ _ hX2
      have x5 := cell_of_row _ _ 5 _ _ _ hX2
      have f0 := blk_frozen hX2 0
      have f1 := blk_frozen hX2 1
      have f2 := blk_frozen hX2 2
      have f3 := blk_frozen hX2 3
      have f4 := blk_frozen hX2 4
      have f5 := blk_frozen hX2 5
      clear hX2 hTc hBc
      go_wp2_with fail
      have hfin := (blk_set (blk_set (blk_set (blk_set (blk_set (blk_set HX2'.out 0 (.int .i64 T0)) 1 (.int .i64 T1)) 2 (.string T2)) 3 (.slice G3 T3.length g3)) 4 (.string T4)) 5 (.slice G5 T5.length g5))
      exact ⟨rfl, _, res_tree2 hfin 4 5 _ rfl rfl rfl, _, rfl, (HTC.out.step (fun q hq _ => set6_far (g := w.heap.size + 1) (a0 := 0) (a1 := 1) (a2 := 2) (a3 := 3) (a4 := 4) (a5 := 5) (v0 := (.int .i64 T0)) (v1 := (.int .i64 T1)) (v2 := (.string T2)) (v3 := (.slice G3 T3.length g3)) (v4 := (.string T4)) (v5 := (.slice G5 T5.length g5)) q (by rcases hq with hq | hq <;> omega))).mono (fun q hq => hq.imp (fun h => h.1) (fun h => by omega)), ((((((HBC.out.setCell (p := ⟨w.heap.size + 1, 0, none⟩) (Nat.le_succ _) (.int .i64 T0)).setCell (p := ⟨w.heap.size + 1, 1, none⟩) (Nat.le_succ _) (.int .i64 T1)).setCell (p := ⟨w.heap.size + 1, 2, none⟩) (Nat.le_succ _) (.string T2)).setCell (p := ⟨w.heap.size + 1, 3, none⟩) (Nat.le_succ _) (.slice G3 T3.length g3)).setCell (p := ⟨w.heap.size + 1, 4, none⟩) (Nat.le_succ _) (.string T4)).setCell (p := ⟨w.heap.size + 1, 5, none⟩) (Nat.le_succ _) (.slice G5 T5.length g5))⟩
end Go.Proofs.YteglfgmgpbablaaDoor.Cmp
