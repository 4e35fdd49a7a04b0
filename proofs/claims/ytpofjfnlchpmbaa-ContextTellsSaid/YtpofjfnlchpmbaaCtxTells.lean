/- The walk of the law ContextTells: true. -/
import Derived.Test.YtpofjfnlchpmbaaCtxOne
import Derived.Test.YtpofjfnlchpmbaaCtxSame
namespace Go.Proofs.Ytpofjfnlchpmbaa.Ctx
open Go.RowKit Go.Proofs.Ytpofjfnlchpmbaa.PContextTells Go.Proofs.YtpofjfnlchpmbaaW.PrintWords Go.Proofs.YtpofjfnlchpmbaaW.PrintLast

theorem ctx_some (t : Int) : ∃ r1 r2, arbourkeep_Context.f t = some (r1, r2, []) := by
  obtain ⟨u, h0, h1, hu⟩ := within0 t 1048576 (by omega)
  rw [show ((1048576 : Nat) : Int) = 1048576 from rfl] at hu h1
  have d0 : 0 ≤ Int.tdiv u 7 := Int.tdiv_nonneg h0 (by omega)
  have d1 : Int.tdiv u 7 ≤ 1048576 := by rw [Int.tdiv_eq_ediv_of_nonneg h0]; omega
  unfold arbourkeep_Context.f
  rw [Option.bind_some, hu, Option.bind_some]
  by_cases h : Int.tmod u 7 = 0
  · have e1 := Int.tmod_lt_of_pos (Int.tdiv u 7) (show (0 : Int) < 5 by omega)
    have e2 := Int.tmod_nonneg 5 d0
    rw [if_pos h, Option.bind_some, IntWalk.wrap64_in _ (by omega), if_pos e2, if_pos (by simpa using e1)]
    exact ⟨_, _, rfl⟩
  · have e1 := Int.tmod_lt_of_pos u (show (0 : Int) < 18 by omega)
    have e2 := Int.tmod_nonneg 18 h0
    rw [if_neg h, if_neg (by simp), if_pos (by simpa using e2), if_pos (by simpa using e1)]
    exact ⟨_, _, rfl⟩
/-- Behind the cutting of a context: its struct in the block X. -/
def RelC (w : World) (X : Nat) (n : Int) (s : ByteArray) (wx : World) : Prop := ∃ (AS : Option Addr) (cS : Nat) (LS : List S44), wx.heap[X]? = some (.cells #[.int .i64 n, .string s, .slice AS LS.length cS] 24 (0, 0)) ∧ Rds wx AS cS LS ∧ LS.length ≤ 6 ∧ Below w.heap.size w wx
theorem relC {w W : World} {X base : Nat} {n : Int} {s s0 : ByteArray} {AS A0 : Option Addr} {cS n0 c0 : Nat} {ys : List S44} (hq : W.heap[X]? = some (.cells #[.int .i64 n, .string s0, .slice A0 n0 c0] 24 (0, 0))) (hR : Kd.R k44 44 W base (fun _ => True) (.slice AS ys.length cS) ys) (hy : ys.length ≤ 6) (hb : Below w.heap.size w W) (hX : w.heap.size ≤ X) :
    RelC w X n s ((W.setCell ⟨X, 1, none⟩ (.string s)).setCell ⟨X, 2, none⟩ (.slice AS ys.length cS)) := by
  have hq1 := blk_set hq 1 (.string s)
  have hq2 := blk_set hq1 2 (.slice AS ys.length cS)
  have hr := Kd.R_reads' (Kd.R_set (Kd.R_set hR hq (by decide) 1 (.string s)) hq1 (by decide) 2 (.slice AS ys.length cS))
  exact ⟨AS, cS, ys, hq2, ⟨hr.2.2, hr.2.1⟩, hy, (hb.setCell hX _).setCell hX _⟩
set_option maxHeartbeats 8000000 in
set_option maxRecDepth 100000 in
theorem tells (A : Option Addr) (c : Nat) (l : List (Int × Bool)) (n : Int) (s : ByteArray) (A1 : Option Addr) (c1 : Nat) (l1 : List S44) (tmpl : Int) (hd part : Bool) (w : World) (hl : kEl.C w A l.length l ∧ l.length ≤ c) (h1 : k44.C w A1 l1.length l1 ∧ l1.length ≤ c1) :
    Calls Try.prog 4 #[.slice A l.length c, .agg #[.int .i64 n, .string s, .slice A1 l1.length c1], .int .i64 tmpl, .bool hd, .bool part] w fun e w' => e = .returned (.bool true) ∧ Below w.heap.size w w' := by
  have HL := hide hl.1
  have H1 := hide h1
  clear hl h1
  go_enter Try.func4, Try.ntmps4
  go_wp2_with fail
  obtain ⟨wX, hX⟩ : ∃ wX, w.alloc (.cells #[.int .i64 n, .string s, .slice A1 l1.length c1] 24) = wX := ⟨_, rfl⟩
  have hbX : Below w.heap.size w wX := by rw [← hX]; exact below_alloc (Below.refl _ _) _
  have gX : wX.heap[w.heap.size]? = some (.cells #[.int .i64 n, .string s, .slice A1 l1.length c1] 24 (0, 0)) := by rw [← hX]; exact heap_alloc_new w _
  rw [hX]
  clear hX
  have x1 : wX.cell? ⟨w.heap.size, 1, none⟩ = some (.string s) := cell_of_row wX _ 1 _ _ _ gX
  have x2 : wX.cell? ⟨w.heap.size, 2, none⟩ = some (.slice A1 l1.length c1) := cell_of_row wX _ 2 _ _ _ gX
  have HBX := hide hbX
  have GX := hide gX
  have H1X := hide (show k44.C wX A1 l1.length l1 ∧ l1.length ≤ c1 from ⟨Kd.C_below H1.out.1 hbX, H1.out.2⟩)
  clear hbX gX H1
  have HSH := hide (fun (W : World) (hW : k44.C W A1 l1.length l1) => short A1 c1 l1 W ⟨hW, H1X.out.2⟩)
  go_cut [] from 12 to 20 (fun wx => RelC w w.heap.size n (headL s) wx)
  case first =>
    go_region_with (first | (go_at_call 6; (with_reducible refine (head s _).mono ?_); rintro e wn ⟨rfl, ⟨⟨na, rfl⟩⟩⟩) | (go_at_call 7; (refine (HSH.out _ (by exact H1X.out.1)).mono ?_); rintro e wn ⟨v, ys, rfl, hy6, hR, hbn⟩; obtain ⟨AS, cS, rfl, _, _⟩ := Kd.R_reads hR; have HR := hide hR; have HY := hide hy6; have hq : wn.heap[w.heap.size]? = some (.cells #[.int .i64 n, .string s, .slice A1 l1.length c1] 24 (0, 0)) := (hbn.block _ (blk_lt GX.out)).trans GX.out; have HQ := hide hq; have HBn := hide (show Below w.heap.size w wn from HBX.out.trans (Below.mono (show Below wX.heap.size wX wn from Below.trans (by first | exact (Below.refl _ _).drew | exact pw_below_drewN (Below.refl _ _) _) hbn) HBX.out.size)); have q1 : wn.cell? ⟨w.heap.size, 1, none⟩ = some (.string s) := cell_of_row _ _ 1 _ _ _ hq; have q2 : wn.cell? ⟨w.heap.size, 2, none⟩ = some (.slice A1 l1.length c1) := cell_of_row _ _ 2 _ _ _ hq; have q3 := blk_frozen hq 1; have q4 := blk_frozen hq 2; clear hq hR hy6 hbn))
    all_goals (
      go_wp2_with fail
      go_meet
      first
      | exact relC HQ.out HR.out HY.out HBn.out (Nat.le_refl _)
      | exact relC (W := wn.drewN _) HQ.out (Kd.R_drewN HR.out _) HY.out (pw_below_drewN HBn.out _) (Nat.le_refl _))
  case rest =>
    clear x1 x2 GX HBX H1X HSH
    obtain ⟨AS, cS, LS, g1, hS, hS6, hb⟩ := hcut
    obtain ⟨h, hh⟩ : ∃ h, headL s = h := ⟨_, rfl⟩
    rw [hh] at g1
    clear hh
    obtain ⟨t, ht0, ht1, ht⟩ := within0 tmpl 1000 (by omega)
    rw [show ((1000 : Nat) : Int) = 1000 from rfl] at ht
    obtain ⟨r1, r2, hr⟩ := ctx_some t
    have HT := hide ht
    have HR := hide hr
    have G1 := hide g1
    have HS := hide hS
    have HS6 := hide hS6
    have HB := hide hb
    clear g1 hS hS6 hb ht hr ht0 ht1
    go_wp2_with fail
    refine (arbourbook_Within.calls tmpl 0 1000 t _ HT.out).mono ?_
    rintro e w2 ⟨rfl, hd2⟩
    have hb2 := hd2.below
    have G2 := hide ((hb2.block _ (blk_lt G1.out)).trans G1.out)
    have HB2 := hide (below_step HB.out hb2)
    have HS2 := hide (show Rds w2 AS cS LS from ⟨Kd.C_below HS.out.1 hb2, HS.out.2⟩)
    clear hd2 hb2 G1 HB HS HT
    dsimp only
    go_wp2_with fail
    obtain ⟨LD, hLD⟩ : ∃ LD : List S44, [] = LD := ⟨_, rfl⟩
    have hr0 := HR.out
    have hLD0 : LD.length ≤ 1000 := by rw [← hLD]; simp
    rw [hLD] at hr0
    have HR0 := hide hr0
    clear hLD hr0
    refine (arbourkeep_Context.calls t r1 r2 LD w2 HR0.out).mono ?_
    rintro e w3 ⟨v, rfl, hR, hb3⟩
    obtain ⟨AD, cD, rfl, hlD, hCD⟩ := Kd.R_reads hR
    obtain ⟨w4, hw4⟩ : ∃ w4, w3.alloc (.cells #[.int .i64 r1, .string r2, .slice AD LD.length cD] 24) = w4 := ⟨_, rfl⟩
    have hbA : Below w3.heap.size w3 w4 := by rw [← hw4]; exact below_alloc (Below.refl _ _) _
    have hb4 := below_step hb3 hbA
    have gD : w4.heap[w3.heap.size]? = some (.cells #[.int .i64 r1, .string r2, .slice AD LD.length cD] 24 (0, 0)) := by rw [← hw4]; exact heap_alloc_new w3 _
    have gC := (hb4.block _ (blk_lt G2.out)).trans G2.out
    have GC := hide gC
    have GD := hide gD
    have HB4 := hide (below_step HB2.out hb4)
    have HS4 := hide (show Rds w4 AS cS LS from ⟨Kd.C_below HS2.out.1 hb4, HS2.out.2⟩)
    have HD4 := hide (show Rds w4 AD cD LD from ⟨Kd.C_below hCD hbA, hlD⟩)
    have HLD := hide hLD0
    have y0 : w4.cell? ⟨w.heap.size, 0, none⟩ = some (.int .i64 n) := cell_of_row _ _ 0 _ _ _ gC
    have y1 : w4.cell? ⟨w.heap.size, 1, none⟩ = some (.string h) := cell_of_row _ _ 1 _ _ _ gC
    have y2 : w4.cell? ⟨w.heap.size, 2, none⟩ = some (.slice AS LS.length cS) := cell_of_row _ _ 2 _ _ _ gC
    clear hR hb3 hlD hCD hb4 hbA gC gD G2 HB2 HS2 HR HR0 hLD0
    dsimp only
    go_wp2_with fail
    clear hw4
    refine (one n h AS cS LS w4 HS4.out (by have := HS6.out; omega)).mono ?_
    rintro e w5 ⟨rfl, hb⟩
    have gC := (hb.block _ (blk_lt GC.out)).trans GC.out
    have gD := (hb.block _ (blk_lt GD.out)).trans GD.out
    have GC5 := hide gC
    have GD5 := hide gD
    have HB5 := hide (below_step HB4.out hb)
    have HD5 := hide (show Rds w5 AD cD LD from ⟨Kd.C_below HD4.out.1 hb, HD4.out.2⟩)
    have z0 : w5.cell? ⟨w3.heap.size, 0, none⟩ = some (.int .i64 r1) := cell_of_row _ _ 0 _ _ _ gD
    have z1 : w5.cell? ⟨w3.heap.size, 1, none⟩ = some (.string r2) := cell_of_row _ _ 1 _ _ _ gD
    have z2 : w5.cell? ⟨w3.heap.size, 2, none⟩ = some (.slice AD LD.length cD) := cell_of_row _ _ 2 _ _ _ gD
    clear hb gC gD GC GD HB4 HD4 HS4 y0 y1 y2
    dsimp only
    go_wp2_with fail
    refine (one r1 r2 AD cD LD w5 HD5.out HLD.out).mono ?_
    rintro e w6 ⟨rfl, hb⟩
    have GC6 := hide ((hb.block _ (blk_lt GC5.out)).trans GC5.out)
    have GD6 := hide ((hb.block _ (blk_lt GD5.out)).trans GD5.out)
    have HB6 := hide (below_step HB5.out hb)
    clear hb GC5 GD5 HB5 HD5 z0 z1 z2
    dsimp only
    cases part with
    | true =>
      go_wp2_with fail
      refine (same A c l (.pointer (some ⟨w3.heap.size, 0, none⟩)) (some (r1, r2)) tmpl hd w6 (Kd.C_below HL.out HB6.out) ⟨w3.heap.size, rfl, cell_of_row _ _ 0 _ _ _ GD6.out, cell_of_row _ _ 1 _ _ _ GD6.out⟩).mono ?_
      rintro e w7 ⟨rfl, hb⟩
      have GC7 := hide ((hb.block _ (blk_lt GC6.out)).trans GC6.out)
      have HB7 := hide (below_step HB6.out hb)
      clear hb GC6 GD6 HB6
      dsimp only
      go_wp2_with fail
      refine (same A c l (.pointer (some ⟨w.heap.size, 0, none⟩)) (some (n, h)) tmpl hd w7 (Kd.C_below HL.out HB7.out) ⟨w.heap.size, rfl, cell_of_row _ _ 0 _ _ _ GC7.out, cell_of_row _ _ 1 _ _ _ GC7.out⟩).mono ?_
      rintro e w8 ⟨rfl, hb⟩
      have HB8 := hide (below_step HB7.out hb)
      clear hb GC7 HB7
      dsimp only
      go_wp2_with fail
      refine (known _).mono ?_
      rintro e w9 ⟨rfl, hb⟩
      have HB9 := hide (below_step HB8.out hb)
      clear hb HB8
      dsimp only
      go_wp2_with fail
      go_ret
      exact ⟨rfl, HB9.out⟩
    | false =>
      go_wp2_with fail
      refine (same A c l (.pointer none) none tmpl hd w6 (Kd.C_below HL.out HB6.out) rfl).mono ?_
      rintro e w7 ⟨rfl, hb⟩
      have HB7 := hide (below_step HB6.out hb)
      clear hb GC6 GD6 HB6
      dsimp only
      go_wp2_with fail
      refine (known _).mono ?_
      rintro e w9 ⟨rfl, hb⟩
      have HB9 := hide (below_step HB7.out hb)
      clear hb HB7
      dsimp only
      go_wp2_with fail
      go_ret
      exact ⟨rfl, HB9.out⟩
end Go.Proofs.Ytpofjfnlchpmbaa.Ctx
