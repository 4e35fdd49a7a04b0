/- The walk of arbourlaw16.made. -/
import Derived.Test.YtbljbgjecnmeeaaDoorOpPure
import Derived.Deep.DeepCutAuto
import Derived.Deep.CutBlock
import Derived.Outline
import Derived.Deep.QuietTactic
import Derived.BigQuiet
import Derived.Deep.RegionLaw
import Derived.BigRegion
namespace Go.Proofs.YtbljbgjecnmeeaaDoor.OpP
open Go.RowKit Go.Proofs.YtbljbgjecnmeeaaDoor.POpTells Go.Proofs.YtbljbgjecnmeeaaDoorW.PrintWords Go.Proofs.YtbljbgjecnmeeaaDoorW.PrintLast
set_option linter.unusedVariables false
set_option linter.unusedSimpArgs false
def ShortP (w3 : World) (l : List S32) (e : Ending) (w' : World) : Prop := ∃ A7 c7, e = .returned (.slice A7 l.length c7) ∧ k32.R 32 w' w3.heap.size (fun _ => True) (.slice A7 l.length c7) l ∧ Below w3.heap.size w3 w'
/-- Behind the three stores. -/
def MadeRel (w w3 : World) (cs : Array Value) (l : List S32) (v : Value) (wx : World) : Prop := wx.heap[w.heap.size + 1 + 1]? = some (.cells cs 24 (0, 0)) ∧ k32.R 32 wx w3.heap.size (fun _ => True) v l ∧ Below (w.heap.size + 1 + 1) w3 wx
set_option maxHeartbeats 40000000 in
set_option maxRecDepth 100000 in
theorem made (o : S24) (tm : Bool) (kd : Int) (A : Option Addr) (c : Nat) (w : World) (hx : k32.C w A o.f7.length o.f7) (hl : o.f7.length ≤ c) :
    Calls Tryd.prog 7 #[.agg #[.int .i64 o.f0, .int .i64 o.f1, .int .i64 o.f2, .int .i64 o.f3, .int .i64 o.f4, .int .i64 o.f5, .string o.f6, .slice A o.f7.length c, .string o.f8, .bool tm, .int .i64 kd]] w fun e w' => ∃ v, e = .returned (opV (madeL o tm kd) v) ∧ k32.R 32 w' w.heap.size (fun _ => True) v (madeL o tm kd).f7 ∧ Below w.heap.size w w' := by
  have hX := heap_alloc_new w (.cells #[.int .i64 o.f0, .int .i64 o.f1, .int .i64 o.f2, .int .i64 o.f3, .int .i64 o.f4, .int .i64 o.f5, .string o.f6, .slice A o.f7.length c, .string o.f8, .bool tm, .int .i64 kd] 26)
  have b1 := below_alloc (Below.refl w.heap.size w) (.cells #[.int .i64 o.f0, .int .i64 o.f1, .int .i64 o.f2, .int .i64 o.f3, .int .i64 o.f4, .int .i64 o.f5, .string o.f6, .slice A o.f7.length c, .string o.f8, .bool tm, .int .i64 kd] 26)
  obtain ⟨w1, hw1⟩ : ∃ w1, w.alloc (.cells #[.int .i64 o.f0, .int .i64 o.f1, .int .i64 o.f2, .int .i64 o.f3, .int .i64 o.f4, .int .i64 o.f5, .string o.f6, .slice A o.f7.length c, .string o.f8, .bool tm, .int .i64 kd] 26) = w1 := ⟨_, rfl⟩
  have hs1 : w1.heap.size = w.heap.size + 1 := by rw [← hw1]; simp
  rw [hw1] at hX b1
  have hZ := heap_alloc_new w1 (.cells #[.int .i64 0, .int .i64 0, .int .i64 0, .int .i64 0, .int .i64 0, .int .i64 0, .string ⟨#[]⟩, .slice none 0 0, .string ⟨#[]⟩] 24)
  have b2 := below_alloc (Below.refl w1.heap.size w1) (.cells #[.int .i64 0, .int .i64 0, .int .i64 0, .int .i64 0, .int .i64 0, .int .i64 0, .string ⟨#[]⟩, .slice none 0 0, .string ⟨#[]⟩] 24)
  obtain ⟨w2, hw2⟩ : ∃ w2, w1.alloc (.cells #[.int .i64 0, .int .i64 0, .int .i64 0, .int .i64 0, .int .i64 0, .int .i64 0, .string ⟨#[]⟩, .slice none 0 0, .string ⟨#[]⟩] 24) = w2 := ⟨_, rfl⟩
  have hs2 : w2.heap.size = w.heap.size + 1 + 1 := by rw [← hw2]; simp [hs1]
  rw [hw2] at hZ b2
  rw [hs1] at hZ
  have hX2 := (b2.block _ (blk_lt hX)).trans hX
  have hb2 := below_step b1 b2
  have hO := heap_alloc_new w2 (.cells #[.int .i64 o.f0, .int .i64 o.f1, .int .i64 o.f2, .int .i64 o.f3, .int .i64 o.f4, .int .i64 o.f5, .string o.f6, .slice A o.f7.length c, .string o.f8] 24)
  have b3 := below_alloc (Below.refl w2.heap.size w2) (.cells #[.int .i64 o.f0, .int .i64 o.f1, .int .i64 o.f2, .int .i64 o.f3, .int .i64 o.f4, .int .i64 o.f5, .string o.f6, .slice A o.f7.length c, .string o.f8] 24)
  obtain ⟨w3, hw3⟩ : ∃ w3, w2.alloc (.cells #[.int .i64 o.f0, .int .i64 o.f1, .int .i64 o.f2, .int .i64 o.f3, .int .i64 o.f4, .int .i64 o.f5, .string o.f6, .slice A o.f7.length c, .string o.f8] 24) = w3 := ⟨_, rfl⟩
  have hs3 : w3.heap.size = w.heap.size + 1 + 1 + 1 := by rw [← hw3]; simp [hs2]
  rw [hw3] at hO b3
  rw [hs2] at hO
  have HX := hide ((b3.block _ (blk_lt hX2)).trans hX2)
  have HZ := hide ((b3.block _ (blk_lt hZ)).trans hZ)
  have HB := hide (below_step hb2 b3)
  have HO := hide hO
  have HS3 := hide hs3
  have HW1 := hide hw1
  have HW2 := hide hw2
  have HW3 := hide hw3
  have HA := hide (show k32.C w3 A o.f7.length o.f7 from Kd.C_below hx (below_step hb2 b3))
  clear b1 b2 hX hX2 hZ hb2 b3 hO hs1 hs2 hs3 hw1 hw2 hw3 hx
  have HH6 := hide (fun W => arbourkeep_Head.calls o.f6 20 (capL o.f6 20) W (head_some o.f6 20))
  have HH8 := hide (fun W => arbourkeep_Head.calls o.f8 30 (capL o.f8 30) W (head_some o.f8 30))
  have HSH := hide (fun W (hb : Below w3.heap.size w3 W) => (arbourkeep_Short.calls 40 A c o.f7 (shortL o.f7) W (Kd.C_below HA.out hb) hl (short_some o.f7)).mono (R' := fun e w' => ShortP w3 (shortL o.f7) e w') (fun e w' h => by
    obtain ⟨v, he, hR, hB⟩ := h
    obtain ⟨A7, c7, rfl⟩ := Kd.R_slice hR
    exact ⟨A7, c7, he, Kd.R_lower hR hb.size, below_step hb hB⟩))
  obtain ⟨y, hy⟩ : ∃ y, madeL o tm kd = y := ⟨_, rfl⟩
  rw [hy]
  unfold madeL at hy
  obtain ⟨s6, hs6⟩ : ∃ s, capL o.f6 20 = s := ⟨_, rfl⟩
  obtain ⟨s8, hs8⟩ : ∃ s, capL o.f8 30 = s := ⟨_, rfl⟩
  obtain ⟨s7, hs7⟩ : ∃ s, shortL o.f7 = s := ⟨_, rfl⟩
  obtain ⟨o0, o1, o2, o3, o4, o5, o6, o7, o8⟩ := o
  dsimp only at *
  rw [hs6] at HH6 hy
  rw [hs8] at HH8 hy
  rw [hs7] at HSH hy
  have HS6 := hide hs6
  have HS7 := hide hs7
  have HS8 := hide hs8
  have HY := hide hy
  clear hs6 hs7 hs8 hl hy
  go_enter Tryd.func7, Tryd.ntmps7
  go_wp2_with fail
  rw [HW1.out, HW2.out, HW3.out]
  have q6 := cell_of_row _ _ 6 _ _ _ HO.out
  have q7 := cell_of_row _ _ 7 _ _ _ HO.out
  have q8 := cell_of_row _ _ 8 _ _ _ HO.out
  go_cut [] from 9 to 20 (fun wx => ∃ A7 c7, MadeRel w w3 #[.int .i64 o0, .int .i64 o1, .int .i64 o2, .int .i64 o3, .int .i64 o4, .int .i64 o5, .string s6, .slice A7 s7.length c7, .string s8] s7 (.slice A7 s7.length c7) wx)
  case first =>
    go_region_with (first | (go_at_call 10; (with_reducible refine (HH6.out _).mono ?_); rintro e wn ⟨rfl, ⟨nq, rfl⟩⟩) | (go_at_call 10; (with_reducible refine (HH8.out _).mono ?_); rintro e wn ⟨rfl, ⟨nq, rfl⟩⟩) | (go_at_call 23; (with_reducible refine (HSH.out _ ?_).mono ?_); (repeat (first | exact Below.refl _ _ | apply Below.drew | apply pw_below_drewN)); rintro e wn ⟨A7, c7, rfl, hR7, hB7⟩; have hB := (hB7.block _ (blk_lt HO.out)).trans HO.out; have HR7 := hide hR7; have HB7 := hide hB7; have HBL := hide hB; have u6 := cell_of_row _ _ 6 _ _ _ hB; have u7 := cell_of_row _ _ 7 _ _ _ hB; have u8 := cell_of_row _ _ 8 _ _ _ hB; have g6 := blk_frozen hB 6; have g7 := blk_frozen hB 7; have g8 := blk_frozen hB 8; clear hR7 hB7 hB))
    all_goals (
      go_wp2_with fail
      go_meet
      have hfin := (blk_set (blk_set (blk_set HBL.out 6 (.string s6)) 8 (.string s8)) 7 (.slice A7 s7.length c7))
      have hbF := ((HB7.out.mono (B' := w.heap.size + 1 + 1) (by have := HS3.out; omega)).setCell (p := ⟨w.heap.size + 1 + 1, 6, none⟩) (Nat.le_refl _) (.string s6)).setCell (p := ⟨w.heap.size + 1 + 1, 8, none⟩) (Nat.le_refl _) (.string s8) |>.setCell (p := ⟨w.heap.size + 1 + 1, 7, none⟩) (Nat.le_refl _) (.slice A7 s7.length c7)
      have hrF := (Kd.R_set (Kd.R_set (Kd.R_set HR7.out HBL.out (by decide) 6 (.string s6)) (blk_set HBL.out 6 (.string s6)) (by decide) 8 (.string s8)) (blk_set (blk_set HBL.out 6 (.string s6)) 8 (.string s8)) (by decide) 7 (.slice A7 s7.length c7))
      exact ⟨A7, c7, hfin, hrF, hbF⟩)
  case rest =>
    obtain ⟨A7, c7, hO2, hR2, hB2⟩ := hcut
    have hX2 := (hB2.block _ (by omega)).trans HX.out
    have hZ2 := (hB2.block _ (by omega)).trans HZ.out
    have HO2 := hide hO2
    have HX2 := hide hX2
    have HZ2 := hide hZ2
    have HR2 := hide hR2
    have HB2 := hide (HB.out.trans (hB2.mono (by have := blk_lt HX.out; omega)))
    clear hR2 hB2 HO HX HZ HSH HH6 HH8 HA HB q6 q7 q8 HW1 HW2 HW3
    have r9 := cell_of_row _ _ 9 _ _ _ hX2
    have hzw : w.heap.size ≤ w.heap.size + 1 := by omega
    cases tm with
    | false =>
      have co0 : wc.cell? ⟨w.heap.size + 1 + 1, 0, none⟩ = some (.int .i64 o0) := cell_of_row _ _ 0 _ _ _ hO2
      have co1 : wc.cell? ⟨w.heap.size + 1 + 1, 1, none⟩ = some (.int .i64 o1) := cell_of_row _ _ 1 _ _ _ hO2
      have co2 : wc.cell? ⟨w.heap.size + 1 + 1, 2, none⟩ = some (.int .i64 o2) := cell_of_row _ _ 2 _ _ _ hO2
      have co3 : wc.cell? ⟨w.heap.size + 1 + 1, 3, none⟩ = some (.int .i64 o3) := cell_of_row _ _ 3 _ _ _ hO2
      have co4 : wc.cell? ⟨w.heap.size + 1 + 1, 4, none⟩ = some (.int .i64 o4) := cell_of_row _ _ 4 _ _ _ hO2
      have co5 : wc.cell? ⟨w.heap.size + 1 + 1, 5, none⟩ = some (.int .i64 o5) := cell_of_row _ _ 5 _ _ _ hO2
      have co6 : wc.cell? ⟨w.heap.size + 1 + 1, 6, none⟩ = some (.string s6) := cell_of_row _ _ 6 _ _ _ hO2
      have co7 : wc.cell? ⟨w.heap.size + 1 + 1, 7, none⟩ = some (.slice A7 s7.length c7) := cell_of_row _ _ 7 _ _ _ hO2
      have co8 : wc.cell? ⟨w.heap.size + 1 + 1, 8, none⟩ = some (.string s8) := cell_of_row _ _ 8 _ _ _ hO2
      have cz0 : wc.cell? ⟨w.heap.size + 1, 0, none⟩ = some (.int .i64 0) := cell_of_row _ _ 0 _ _ _ hZ2
      have cz1 : wc.cell? ⟨w.heap.size + 1, 1, none⟩ = some (.int .i64 0) := cell_of_row _ _ 1 _ _ _ hZ2
      have cz2 : wc.cell? ⟨w.heap.size + 1, 2, none⟩ = some (.int .i64 0) := cell_of_row _ _ 2 _ _ _ hZ2
      have cz3 : wc.cell? ⟨w.heap.size + 1, 3, none⟩ = some (.int .i64 0) := cell_of_row _ _ 3 _ _ _ hZ2
      have cz4 : wc.cell? ⟨w.heap.size + 1, 4, none⟩ = some (.int .i64 0) := cell_of_row _ _ 4 _ _ _ hZ2
      have cz5 : wc.cell? ⟨w.heap.size + 1, 5, none⟩ = some (.int .i64 0) := cell_of_row _ _ 5 _ _ _ hZ2
      have cz6 : wc.cell? ⟨w.heap.size + 1, 6, none⟩ = some (.string ⟨#[]⟩) := cell_of_row _ _ 6 _ _ _ hZ2
      have cz7 : wc.cell? ⟨w.heap.size + 1, 7, none⟩ = some (.slice none 0 0) := cell_of_row _ _ 7 _ _ _ hZ2
      have cz8 : wc.cell? ⟨w.heap.size + 1, 8, none⟩ = some (.string ⟨#[]⟩) := cell_of_row _ _ 8 _ _ _ hZ2
      have fz0 := blk_frozen hZ2 0
      have fz1 := blk_frozen hZ2 1
      have fz2 := blk_frozen hZ2 2
      have fz3 := blk_frozen hZ2 3
      have fz4 := blk_frozen hZ2 4
      have fz5 := blk_frozen hZ2 5
      have fz6 := blk_frozen hZ2 6
      have fz7 := blk_frozen hZ2 7
      have fz8 := blk_frozen hZ2 8
      clear hO2 hX2 hZ2
      go_wp2_with fail
      have hy := HY.out
      rw [if_neg (by decide)] at hy
      subst hy
      exact ⟨rfl, _, res_op (set9_blk (HZ2.out) (.int .i64 o0) (.int .i64 o1) (.int .i64 o2) (.int .i64 o3) (.int .i64 o4) (.int .i64 o5) (.string s6) (.slice A7 s7.length c7) (.string s8)) 2 _ rfl rfl, _, rfl, Kd.R_lower (set9_R (HZ2.out) (.int .i64 o0) (.int .i64 o1) (.int .i64 o2) (.int .i64 o3) (.int .i64 o4) (.int .i64 o5) (.string s6) (.slice A7 s7.length c7) (.string s8) (HR2.out)) (by have := HS3.out; omega), set9_below (HB2.out) hzw (.int .i64 o0) (.int .i64 o1) (.int .i64 o2) (.int .i64 o3) (.int .i64 o4) (.int .i64 o5) (.string s6) (.slice A7 s7.length c7) (.string s8)⟩
    | true =>
      obtain ⟨n, hn⟩ : ∃ n : Int, (withL o1 2147483647 : Int) = n := ⟨_, rfl⟩
      obtain ⟨p, hp⟩ : ∃ n : Int, (withL o2 2147483647 : Int) = n := ⟨_, rfl⟩
      obtain ⟨q, hq⟩ : ∃ n : Int, (withL o3 2147483647 : Int) = n := ⟨_, rfl⟩
      have HN := hide (fun W => arbourbook_Within.calls o1 0 2147483647 n W (by rw [← hn]; exact with31 o1))
      have HP := hide (fun W => arbourbook_Within.calls o2 0 2147483647 p W (by rw [← hp]; exact with31 o2))
      have HQ := hide (fun W => arbourbook_Within.calls o3 0 2147483647 q W (by rw [← hq]; exact with31 o3))
      have HK := hide (fun W => arbourbook_Within.calls kd 0 1000 (withL kd 1000 : Int) W (with1000 kd))
      have hk := (with_some kd 1000 (by omega)).2
      have hy := HY.out
      rw [if_pos rfl] at hy
      unfold madeN at hy
      dsimp only at hy
      rw [hn, hp, hq, HS6.out, HS7.out, HS8.out] at hy
      have HY2 := hide hy
      obtain ⟨k, hk'⟩ : ∃ k, withL kd 1000 = k := ⟨_, rfl⟩
      rw [hk'] at hk HK HY2
      have c1 := cell_of_row _ _ 1 _ _ _ hO2
      have c2 := cell_of_row _ _ 2 _ _ _ hO2
      have c3 := cell_of_row _ _ 3 _ _ _ hO2
      clear hO2 hZ2 hn hp hq hk' hy HY HS6 HS7 HS8
      have rX := cell_of_row _ _ 10 _ _ _ hX2
      clear hX2
      go_upto_region 5 with fail
      go_quiet ((first | (go_at_call 19; (with_reducible refine (HN.out _).mono ?_); rintro e w' ⟨rfl, ⟨⟨nd, rfl⟩⟩⟩; exact ⟨rfl, _, World.drewN_drewN _ _ _⟩) | (go_at_call 19; (with_reducible refine (HP.out _).mono ?_); rintro e w' ⟨rfl, ⟨⟨nd, rfl⟩⟩⟩; exact ⟨rfl, _, World.drewN_drewN _ _ _⟩) | (go_at_call 19; (with_reducible refine (HQ.out _).mono ?_); rintro e w' ⟨rfl, ⟨⟨nd, rfl⟩⟩⟩; exact ⟨rfl, _, World.drewN_drewN _ _ _⟩)))
      go_wp2_with fail
      refine (HK.out _).mono ?_
      rintro e w4 ⟨rfl, hd⟩
      dsimp only
      have hb4 := below_step (pw_below_drewN (Below.refl wc.heap.size wc) nq) hd.below
      have hO4 := (hb4.block _ (blk_lt HO2.out)).trans HO2.out
      have hZ4 := (hb4.block _ (blk_lt HZ2.out)).trans HZ2.out
      have HO4 := hide hO4
      have HZ4 := hide hZ4
      have HR4 := hide (Kd.R_below HR2.out hb4)
      have HB4 := hide (below_step HB2.out hb4)
      have cz0 : w4.cell? ⟨w.heap.size + 1, 0, none⟩ = some (.int .i64 0) := cell_of_row _ _ 0 _ _ _ hZ4
      have cz1 : w4.cell? ⟨w.heap.size + 1, 1, none⟩ = some (.int .i64 0) := cell_of_row _ _ 1 _ _ _ hZ4
      have cz2 : w4.cell? ⟨w.heap.size + 1, 2, none⟩ = some (.int .i64 0) := cell_of_row _ _ 2 _ _ _ hZ4
      have cz3 : w4.cell? ⟨w.heap.size + 1, 3, none⟩ = some (.int .i64 0) := cell_of_row _ _ 3 _ _ _ hZ4
      have cz4 : w4.cell? ⟨w.heap.size + 1, 4, none⟩ = some (.int .i64 0) := cell_of_row _ _ 4 _ _ _ hZ4
      have cz5 : w4.cell? ⟨w.heap.size + 1, 5, none⟩ = some (.int .i64 0) := cell_of_row _ _ 5 _ _ _ hZ4
      have cz6 : w4.cell? ⟨w.heap.size + 1, 6, none⟩ = some (.string ⟨#[]⟩) := cell_of_row _ _ 6 _ _ _ hZ4
      have cz7 : w4.cell? ⟨w.heap.size + 1, 7, none⟩ = some (.slice none 0 0) := cell_of_row _ _ 7 _ _ _ hZ4
      have cz8 : w4.cell? ⟨w.heap.size + 1, 8, none⟩ = some (.string ⟨#[]⟩) := cell_of_row _ _ 8 _ _ _ hZ4
      have fz0 := blk_frozen hZ4 0
      have fz1 := blk_frozen hZ4 1
      have fz2 := blk_frozen hZ4 2
      have fz3 := blk_frozen hZ4 3
      have fz4 := blk_frozen hZ4 4
      have fz5 := blk_frozen hZ4 5
      have fz6 := blk_frozen hZ4 6
      have fz7 := blk_frozen hZ4 7
      have fz8 := blk_frozen hZ4 8
      clear hd hb4 HO2 HZ2 HR2 HB2 HX2 hO4 hZ4 HN HP HQ HK rX r9 c1 c2 c3
      rcases (show k % 11 = 0 ∨ k % 11 = 1 ∨ k % 11 = 2 ∨ k % 11 = 3 ∨ k % 11 = 4 ∨ k % 11 = 5 ∨ k % 11 = 6 ∨ k % 11 = 7 ∨ k % 11 = 8 ∨ k % 11 = 9 ∨ k % 11 = 10 from by omega) with hm | hm | hm | hm | hm | hm | hm | hm | hm | hm | hm
      · have hmi : (k : Int) % 11 = 0 := by omega
        have hy := HY2.out
        rw [hm] at hy
        subst hy
        clear hm HY2
        have q0 : w4.cell? ⟨w.heap.size + 1 + 1, 0, none⟩ = some (.int .i64 o0) := cell_of_row _ _ 0 _ _ _ HO4.out
        have q1 : w4.cell? ⟨w.heap.size + 1 + 1, 1, none⟩ = some (.int .i64 o1) := cell_of_row _ _ 1 _ _ _ HO4.out
        have q2 : w4.cell? ⟨w.heap.size + 1 + 1, 2, none⟩ = some (.int .i64 o2) := cell_of_row _ _ 2 _ _ _ HO4.out
        have q3 : w4.cell? ⟨w.heap.size + 1 + 1, 3, none⟩ = some (.int .i64 o3) := cell_of_row _ _ 3 _ _ _ HO4.out
        have q4 : w4.cell? ⟨w.heap.size + 1 + 1, 4, none⟩ = some (.int .i64 o4) := cell_of_row _ _ 4 _ _ _ HO4.out
        have q5 : w4.cell? ⟨w.heap.size + 1 + 1, 5, none⟩ = some (.int .i64 o5) := cell_of_row _ _ 5 _ _ _ HO4.out
        have q6 : w4.cell? ⟨w.heap.size + 1 + 1, 6, none⟩ = some (.string s6) := cell_of_row _ _ 6 _ _ _ HO4.out
        have q7 : w4.cell? ⟨w.heap.size + 1 + 1, 7, none⟩ = some (.slice A7 s7.length c7) := cell_of_row _ _ 7 _ _ _ HO4.out
        have q8 : w4.cell? ⟨w.heap.size + 1 + 1, 8, none⟩ = some (.string s8) := cell_of_row _ _ 8 _ _ _ HO4.out
        have H4 := hide (fun W => arbourbook_Within.calls o4 0 1 (withL o4 1 : Int) W (with1 o4))
        have H5 := hide (fun W => arbourbook_Within.calls o5 0 2 (withL o5 2 : Int) W (with2 o5))
        have b4 : (withL o4 1 : Int) ≤ 1 := by have := (with_some o4 1 (by omega)).2; omega
        have b4' : (0 : Int) ≤ (withL o4 1 : Int) := by omega
        have hw4 : IntKind.i64.wrap (2 + (withL o4 1 : Int)) = 2 + (withL o4 1 : Int) := IntWalk.i64_in _ (by omega)
        have HBN := hide (fun m => pw_below_drewN (Below.refl w4.heap.size w4) m)
        have HZD := hide (fun m => ((HBN.out m).block _ (blk_lt HZ4.out)).trans HZ4.out)
        have HRD := hide (fun m => Kd.R_below HR4.out (HBN.out m))
        have HBD := hide (fun m => below_step HB4.out (HBN.out m))
        clear q0 q1 q2 q3
        go_wp2_with fail
        go_region_held3 (fun W => W.cell? ⟨w.heap.size + 1 + 1, 4, none⟩ = some (.int .i64 o4) ∧ W.cell? ⟨w.heap.size + 1 + 1, 5, none⟩ = some (.int .i64 o5) ∧ W.cell? ⟨w.heap.size + 1 + 1, 6, none⟩ = some (.string s6) ∧ W.cell? ⟨w.heap.size + 1 + 1, 7, none⟩ = some (.slice A7 s7.length c7) ∧ W.cell? ⟨w.heap.size + 1 + 1, 8, none⟩ = some (.string s8))
          (first
            | go_keep
            | fail)
          ((first
            | (go_at_call 19; (with_reducible refine (H4.out _).mono ?_); rintro e wn ⟨rfl, ⟨⟨nd, rfl⟩⟩⟩)
            | (go_at_call 19; (with_reducible refine (H5.out _).mono ?_); rintro e wn ⟨rfl, ⟨⟨nd, rfl⟩⟩⟩)))
        go_wp2_with fail
        exact ⟨rfl, _, res_op (set9_blk (HZD.out _) (.int .i64 1) (.int .i64 n) (.int .i64 0) (.int .i64 0) (.int .i64 (2 + (withL o4 1 : Int))) (.int .i64 (withL o5 2 : Int)) (.string s6) (.slice A7 s7.length c7) (.string s8)) 2 _ rfl rfl, _, rfl, Kd.R_lower (set9_R (HZD.out _) (.int .i64 1) (.int .i64 n) (.int .i64 0) (.int .i64 0) (.int .i64 (2 + (withL o4 1 : Int))) (.int .i64 (withL o5 2 : Int)) (.string s6) (.slice A7 s7.length c7) (.string s8) (HRD.out _)) (by have := HS3.out; omega), set9_below (HBD.out _) hzw (.int .i64 1) (.int .i64 n) (.int .i64 0) (.int .i64 0) (.int .i64 (2 + (withL o4 1 : Int))) (.int .i64 (withL o5 2 : Int)) (.string s6) (.slice A7 s7.length c7) (.string s8)⟩
      · have hmi : (k : Int) % 11 = 1 := by omega
        have hy := HY2.out
        rw [hm] at hy
        subst hy
        clear hm HY2
        go_wp2_with fail
        exact ⟨rfl, _, res_op (set9_blk (HZ4.out) (.int .i64 2) (.int .i64 n) (.int .i64 p) (.int .i64 0) (.int .i64 0) (.int .i64 0) (.string ⟨#[]⟩) (.slice none 0 0) (.string ⟨#[]⟩)) 2 _ rfl rfl, _, rfl, Kd.R_nil .., set9_below (HB4.out) hzw (.int .i64 2) (.int .i64 n) (.int .i64 p) (.int .i64 0) (.int .i64 0) (.int .i64 0) (.string ⟨#[]⟩) (.slice none 0 0) (.string ⟨#[]⟩)⟩
      · have hmi : (k : Int) % 11 = 2 := by omega
        have hy := HY2.out
        rw [hm] at hy
        subst hy
        clear hm HY2
        go_wp2_with fail
        exact ⟨rfl, _, res_op (set9_blk (HZ4.out) (.int .i64 3) (.int .i64 n) (.int .i64 0) (.int .i64 q) (.int .i64 0) (.int .i64 0) (.string ⟨#[]⟩) (.slice none 0 0) (.string ⟨#[]⟩)) 2 _ rfl rfl, _, rfl, Kd.R_nil .., set9_below (HB4.out) hzw (.int .i64 3) (.int .i64 n) (.int .i64 0) (.int .i64 q) (.int .i64 0) (.int .i64 0) (.string ⟨#[]⟩) (.slice none 0 0) (.string ⟨#[]⟩)⟩
      · have hmi : (k : Int) % 11 = 3 := by omega
        have hy := HY2.out
        rw [hm] at hy
        subst hy
        clear hm HY2
        go_wp2_with fail
        exact ⟨rfl, _, res_op (set9_blk (HZ4.out) (.int .i64 4) (.int .i64 n) (.int .i64 p) (.int .i64 q) (.int .i64 0) (.int .i64 0) (.string ⟨#[]⟩) (.slice none 0 0) (.string ⟨#[]⟩)) 2 _ rfl rfl, _, rfl, Kd.R_nil .., set9_below (HB4.out) hzw (.int .i64 4) (.int .i64 n) (.int .i64 p) (.int .i64 q) (.int .i64 0) (.int .i64 0) (.string ⟨#[]⟩) (.slice none 0 0) (.string ⟨#[]⟩)⟩
      · have hmi : (k : Int) % 11 = 4 := by omega
        have hy := HY2.out
        rw [hm] at hy
        subst hy
        clear hm HY2
        have q8 : w4.cell? ⟨w.heap.size + 1 + 1, 8, none⟩ = some (.string s8) := cell_of_row _ _ 8 _ _ _ HO4.out
        go_wp2_with fail
        exact ⟨rfl, _, res_op (set9_blk (HZ4.out) (.int .i64 5) (.int .i64 0) (.int .i64 p) (.int .i64 0) (.int .i64 0) (.int .i64 0) (.string ⟨#[]⟩) (.slice none 0 0) (.string s8)) 2 _ rfl rfl, _, rfl, Kd.R_nil .., set9_below (HB4.out) hzw (.int .i64 5) (.int .i64 0) (.int .i64 p) (.int .i64 0) (.int .i64 0) (.int .i64 0) (.string ⟨#[]⟩) (.slice none 0 0) (.string s8)⟩
      · have hmi : (k : Int) % 11 = 5 := by omega
        have hy := HY2.out
        rw [hm] at hy
        subst hy
        clear hm HY2
        have q8 : w4.cell? ⟨w.heap.size + 1 + 1, 8, none⟩ = some (.string s8) := cell_of_row _ _ 8 _ _ _ HO4.out
        go_wp2_with fail
        exact ⟨rfl, _, res_op (set9_blk (HZ4.out) (.int .i64 6) (.int .i64 0) (.int .i64 p) (.int .i64 q) (.int .i64 0) (.int .i64 0) (.string ⟨#[]⟩) (.slice none 0 0) (.string s8)) 2 _ rfl rfl, _, rfl, Kd.R_nil .., set9_below (HB4.out) hzw (.int .i64 6) (.int .i64 0) (.int .i64 p) (.int .i64 q) (.int .i64 0) (.int .i64 0) (.string ⟨#[]⟩) (.slice none 0 0) (.string s8)⟩
      · have hmi : (k : Int) % 11 = 6 := by omega
        have hy := HY2.out
        rw [hm] at hy
        subst hy
        clear hm HY2
        go_wp2_with fail
        exact ⟨rfl, _, res_op (set9_blk (HZ4.out) (.int .i64 7) (.int .i64 n) (.int .i64 0) (.int .i64 0) (.int .i64 0) (.int .i64 0) (.string ⟨#[]⟩) (.slice none 0 0) (.string ⟨#[]⟩)) 2 _ rfl rfl, _, rfl, Kd.R_nil .., set9_below (HB4.out) hzw (.int .i64 7) (.int .i64 n) (.int .i64 0) (.int .i64 0) (.int .i64 0) (.int .i64 0) (.string ⟨#[]⟩) (.slice none 0 0) (.string ⟨#[]⟩)⟩
      · have hmi : (k : Int) % 11 = 7 := by omega
        have hy := HY2.out
        rw [hm] at hy
        subst hy
        clear hm HY2
        go_wp2_with fail
        exact ⟨rfl, _, res_op (set9_blk (HZ4.out) (.int .i64 8) (.int .i64 0) (.int .i64 p) (.int .i64 q) (.int .i64 0) (.int .i64 0) (.string ⟨#[]⟩) (.slice none 0 0) (.string ⟨#[]⟩)) 2 _ rfl rfl, _, rfl, Kd.R_nil .., set9_below (HB4.out) hzw (.int .i64 8) (.int .i64 0) (.int .i64 p) (.int .i64 q) (.int .i64 0) (.int .i64 0) (.string ⟨#[]⟩) (.slice none 0 0) (.string ⟨#[]⟩)⟩
      · have hmi : (k : Int) % 11 = 8 := by omega
        have hy := HY2.out
        rw [hm] at hy
        subst hy
        clear hm HY2
        go_wp2_with fail
        exact ⟨rfl, _, res_op (set9_blk (HZ4.out) (.int .i64 9) (.int .i64 n) (.int .i64 0) (.int .i64 q) (.int .i64 0) (.int .i64 0) (.string ⟨#[]⟩) (.slice none 0 0) (.string ⟨#[]⟩)) 2 _ rfl rfl, _, rfl, Kd.R_nil .., set9_below (HB4.out) hzw (.int .i64 9) (.int .i64 n) (.int .i64 0) (.int .i64 q) (.int .i64 0) (.int .i64 0) (.string ⟨#[]⟩) (.slice none 0 0) (.string ⟨#[]⟩)⟩
      · have hmi : (k : Int) % 11 = 9 := by omega
        have hy := HY2.out
        rw [hm] at hy
        subst hy
        clear hm HY2
        have q7 : w4.cell? ⟨w.heap.size + 1 + 1, 7, none⟩ = some (.slice A7 s7.length c7) := cell_of_row _ _ 7 _ _ _ HO4.out
        go_wp2_with fail
        exact ⟨rfl, _, res_op (set9_blk (HZ4.out) (.int .i64 10) (.int .i64 n) (.int .i64 0) (.int .i64 0) (.int .i64 0) (.int .i64 0) (.string ⟨#[]⟩) (.slice A7 s7.length c7) (.string ⟨#[]⟩)) 2 _ rfl rfl, _, rfl, Kd.R_lower (set9_R (HZ4.out) (.int .i64 10) (.int .i64 n) (.int .i64 0) (.int .i64 0) (.int .i64 0) (.int .i64 0) (.string ⟨#[]⟩) (.slice A7 s7.length c7) (.string ⟨#[]⟩) (HR4.out)) (by have := HS3.out; omega), set9_below (HB4.out) hzw (.int .i64 10) (.int .i64 n) (.int .i64 0) (.int .i64 0) (.int .i64 0) (.int .i64 0) (.string ⟨#[]⟩) (.slice A7 s7.length c7) (.string ⟨#[]⟩)⟩
      · have hmi : (k : Int) % 11 = 10 := by omega
        have hy := HY2.out
        rw [hm] at hy
        subst hy
        clear hm HY2
        go_wp2_with fail
        exact ⟨rfl, _, res_op (set9_blk (HZ4.out) (.int .i64 11) (.int .i64 0) (.int .i64 0) (.int .i64 0) (.int .i64 0) (.int .i64 0) (.string ⟨#[]⟩) (.slice none 0 0) (.string ⟨#[]⟩)) 2 _ rfl rfl, _, rfl, Kd.R_nil .., set9_below (HB4.out) hzw (.int .i64 11) (.int .i64 0) (.int .i64 0) (.int .i64 0) (.int .i64 0) (.int .i64 0) (.string ⟨#[]⟩) (.slice none 0 0) (.string ⟨#[]⟩)⟩
end Go.Proofs.YtbljbgjecnmeeaaDoor.OpP
