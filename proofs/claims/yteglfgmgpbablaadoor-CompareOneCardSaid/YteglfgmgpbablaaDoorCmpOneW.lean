/- The walk of arbourlaw24.CompareOne: it is true. -/
import Derived.Test.YteglfgmgpbablaaDoorCmpOneP
import Derived.Test.YteglfgmgpbablaaDoorCmpDeepW
namespace Go.Proofs.YteglfgmgpbablaaDoor.Cmp
open Go.RowKit Go.Proofs.YteglfgmgpbablaaDoor.PCompareTells Go.Proofs.YteglfgmgpbablaaDoorW.PrintWords Go.Proofs.YteglfgmgpbablaaDoorW.PrintLast
theorem growL_ok' (l : List S45) : AL 6 (growL l) ∧ W (growL l) ≤ 101 := by
  obtain ⟨n, h1, h2, h3⟩ : ∃ n, n ≤ l.length ∧ n ≤ 25 ∧ ¬ (n < l.length ∧ n < 25) := by
    by_cases h : l.length ≤ 25
    · exact ⟨l.length, Nat.le_refl _, h, by omega⟩
    · exact ⟨25, by omega, Nat.le_refl _, by omega⟩
  have g := growN_grown l n h1
  rw [growL_N l n h1 h2 h3]
  exact ⟨g.attrs, by have := g.weight; omega⟩
theorem below_of_drewN {B n : Nat} {w w' : World} (h : Below B (w.drewN n) w') : Below B w w' := ⟨h.os, h.tape, h.output, h.size, h.block⟩
theorem below_of_drewA {B n : Nat} {w w' : World} {o : Obj} (h : Below B ((w.drewN n).alloc o) w') : Below B (w.alloc o) w' := ⟨h.os, h.tape, h.output, h.size, h.block⟩
/-- At the loop's head: the way so far, the node that it leads to (in the block Y). -/
def OneRel (w1 w0 : World) (Y : Nat) (a : S26) (v8 : Value) (wr : World) : Prop := ∃ (wd : List Nat) (x : S26) (K3 : Option Addr) (k3 : Nat) (K5 : Option Addr) (k5 : Nat), ValidW wd a ∧ nodeL wd a = x ∧ kI.R 3 wr w1.heap.size (fun _ => True) v8 (wd.map Int.ofNat) ∧ wr.heap[Y]? = some (.cells #[.int .i64 x.f0, .int .i64 x.f1, .string x.f2, .slice K3 x.f3.length k3, .string x.f4, .slice K5 x.f5.length k5] 26 (0, 0)) ∧ TF wr (fun k => k < Y) (.agg #[.int .i64 x.f0, .int .i64 x.f1, .string x.f2, .slice K3 x.f3.length k3, .string x.f4, .slice K5 x.f5.length k5]) x ∧ Below Y w1 wr ∧ Below w0.heap.size w0 wr
set_option maxHeartbeats 20000000 in
set_option maxRecDepth 100000 in
theorem one (A : Option Addr) (ca : Nat) (l : List S45) (B : Option Addr) (cb : Nat) (way : List Int) (s : ByteArray) (w : World) (hC : k45.C w A l.length l ∧ l.length ≤ ca) (hD : kI.C w B way.length way ∧ way.length ≤ cb) :
    Calls Tryd.prog 4 #[.slice A l.length ca, .slice B way.length cb, .string s] w fun e w' => e = .returned (.bool true) ∧ Below w.heap.size w w' := by
  obtain ⟨sh, hsh, hss⟩ := head_size s
  have HSH := hide hsh
  have HG := hide (grow l A ca w hC.1 hC.2)
  have hal := growL_ok' l
  obtain ⟨⟨a0, a1, a2, a3, a4, a5⟩, ha⟩ : ∃ a, growL l = a := ⟨_, rfl⟩
  rw [ha] at HG hal
  have HAL := hide hal
  have HWC := hide hD.1
  have hwn := hD.1.2.1
  have HWN := hide hwn
  clear hsh hC hD hal ha hwn
  go_enter Tryd.func4, Tryd.ntmps4
  go_wp2_with fail
  (with_reducible refine HG.out.mono ?_)
  rintro e wa ⟨va, rfl, hT, hBa⟩
  obtain ⟨A3, c3, A5, c5, rfl, -⟩ := hT.open_
  dsimp only
  go_upto_region 4 with fail
  have b1 := below_alloc (Below.refl wa.heap.size wa) (.cells #[.int .i64 a0, .int .i64 a1, .string a2, .slice A3 a3.length c3, .string a4, .slice A5 a5.length c5] 26)
  have b2 := below_alloc (Below.refl (wa.alloc (.cells #[.int .i64 a0, .int .i64 a1, .string a2, .slice A3 a3.length c3, .string a4, .slice A5 a5.length c5] 26)).heap.size (wa.alloc (.cells #[.int .i64 a0, .int .i64 a1, .string a2, .slice A3 a3.length c3, .string a4, .slice A5 a5.length c5] 26))) (.cells #[.int .i64 a0, .int .i64 a1, .string a2, .slice A3 a3.length c3, .string a4, .slice A5 a5.length c5] 26)
  have hX := (b2.block _ (by simp)).trans (heap_alloc_new wa (.cells #[.int .i64 a0, .int .i64 a1, .string a2, .slice A3 a3.length c3, .string a4, .slice A5 a5.length c5] 26))
  have hY := heap_alloc_new (wa.alloc (.cells #[.int .i64 a0, .int .i64 a1, .string a2, .slice A3 a3.length c3, .string a4, .slice A5 a5.length c5] 26)) (.cells #[.int .i64 a0, .int .i64 a1, .string a2, .slice A3 a3.length c3, .string a4, .slice A5 a5.length c5] 26)
  have hs1 : (wa.alloc (.cells #[.int .i64 a0, .int .i64 a1, .string a2, .slice A3 a3.length c3, .string a4, .slice A5 a5.length c5] 26)).heap.size = wa.heap.size + 1 := by simp
  rw [hs1] at hY
  have hB := below_step hBa (below_step b1 b2)
  have hTb := (hT.bound.below (below_step b1 b2)).mono (ok' := fun k => k < wa.heap.size) (fun k hk => hk.2)
  obtain ⟨w1, hw1⟩ : ∃ w1, (wa.alloc (.cells #[.int .i64 a0, .int .i64 a1, .string a2, .slice A3 a3.length c3, .string a4, .slice A5 a5.length c5] 26)).alloc (.cells #[.int .i64 a0, .int .i64 a1, .string a2, .slice A3 a3.length c3, .string a4, .slice A5 a5.length c5] 26) = w1 := ⟨_, rfl⟩
  rw [hw1] at hX hY hB hTb ⊢
  clear hw1 b1 b2 hs1 hT
  have HWX := hide hBa.size
  clear hBa
  generalize wa.heap.size = X at hX hY hTb HWX ⊢
  have HX := hide hX
  have HTX := hide hTb
  have HR := hide (show OneRel w1 w (X + 1) ⟨a0, a1, a2, a3, a4, a5⟩ (.slice none 0 0) w1 from ⟨[], _, A3, c3, A5, c5, trivial, rfl, Kd.R_nil _ _ _ _ _, hY, hTb.mono (fun k hk => by omega), Below.refl _ _, hB⟩)
  have HXl := hide (blk_lt hY)
  have HBw1 := hide hB
  clear hX hY hB hTb
  go_wp2_with fail
  go_loopw [8, 10, 11] (fun v i _ wr => ∃ k : Nat, k ≤ way.length ∧ i = .int .i64 (k : Int) ∧ Aside0 (OneRel w1 w (X + 1) ⟨a0, a1, a2, a3, a4, a5⟩ v wr)) (fun _ i _ _ => way.length - (intOf i).toNat)
  case atStart => exact ⟨0, Nat.zero_le _, rfl, ⟨HR.out⟩⟩
  case round =>
    clear HR
    obtain ⟨k, hk, rfl, hrel⟩ := hrel
    obtain ⟨wd, x, K3, k3, K5, k5, hv, hx, hr, hY, hT, hb1, hb⟩ := hrel.out
    clear hrel
    have HV := hide hv
    have HR := hide hr
    have HY := hide hY
    have HT := hide hT
    have HB1 := hide hb1
    have HB := hide hb
    have hnw := node_W wd _ hv
    have hal2 := HAL.out.2
    rw [hx] at hnw
    have hxw := W_eq x
    have hxl := WK_len x.f5
    have hwdl : wd.length ≤ 101 := by omega
    have hx5 : x.f5.length ≤ 101 := by omega
    have HXN := hide hx
    clear hnw hal2 hxw hxl hx hv hr hT hb1 hb
    have yc5 := cell_of_row _ _ 5 _ _ _ hY
    by_cases hlt : k < way.length ∧ 0 < x.f5.length
    · have hpl := HWN.out
      obtain ⟨ad, hA', hcc⟩ := ints_at (Kd.C_below HWC.out HB.out) k hlt.1
      obtain ⟨n, hn⟩ : ∃ n, way.getD k 0 = n := ⟨_, rfl⟩
      rw [hn] at hcc
      subst hA'
      obtain ⟨u, hu, -, hfu⟩ := within_u n (x.f5.length - 1) (by omega)
      have hm1 : ((x.f5.length - 1 : Nat) : Int) = (x.f5.length : Int) - 1 := by omega
      rw [hm1] at hfu
      have HFU := hide hfu
      have hul : u < x.f5.length := by omega
      have hTo := HT.out.open_
      obtain ⟨_, _, _, _, e9, -, -, -, g5⟩ := hTo
      injection e9 with e9
      injection e9 with e9
      simp only [List.cons.injEq, Value.slice.injEq] at e9
      obtain ⟨-, -, -, ⟨rfl, -, rfl⟩, -, ⟨rfl, -, rfl⟩, -⟩ := e9
      obtain ⟨ak, L3, f3, L5, f5, hak, h0, h1, h2, h3, h4, h5, hTk⟩ := kid_read g5 u hul
      subst hak
      have HTk := hide hTk
      have HUL := hide hul
      have HAKB := hide (show (ak.add (u * 6)).block < X + 1 by
        have h9 := Kd.F_in g5 rfl (by omega) (by show 0 < 6; omega)
        have h8 : (ak.add (u * 6)).block = ak.block := by unfold Addr.add; split <;> rfl
        rw [h8]
        exact h9)
      have k1 : (k : Int) < (way.length : Int) := by have := hlt.1; omega
      have k2 : (0 : Int) ≤ (k : Int) := by omega
      have k3_ : (0 : Int) < (x.f5.length : Int) := by have := hlt.2; omega
      have k4_ : 0 < x.f5.length := hlt.2
      have hwr := IntWalk.i64_in ((x.f5.length : Int) - 1) (by omega)
      have h00 : (0 : Int) ≤ (x.f5.length : Int) - 1 := by omega
      clear g5 hfu hn hTk hul hlt hm1
      go_upto_region 7 with fail
      first
      | go_quiet ((go_at_call 11; (with_reducible refine (arbourbook_Within.calls _ _ _ _ _ HFU.out).mono ?_); rintro e w' ⟨rfl, ⟨⟨nd, rfl⟩⟩⟩; exact ⟨rfl, _, World.drewN_drewN _ _ _⟩))
      | fail
      clear hwr h00
      go_upto_region 8 with fail
      have bq := pw_below_drewN (Below.refl wr.heap.size wr) nq
      have HRq := hide (Kd.R_below HR.out bq)
      have HYq := hide ((bq.block _ (blk_lt HY.out)).trans HY.out)
      have HTq := hide (HTk.out.below bq)
      have HB1q := hide (below_then HB1.out (by have h1 := HXl.out; have h2 := HB1.out.size; omega) bq)
      have HBq := hide (below_step HB.out bq)
      have q0 := cellW h0 bq
      have q1 := cellW h1 bq
      have q2 := cellW h2 bq
      have q3 := cellW h3 bq
      have q4 := cellW h4 bq
      have q5 := cellW h5 bq
      obtain ⟨wq, hwq⟩ : ∃ wq, wr.drewN nq = wq := ⟨_, rfl⟩
      rw [hwq] at HRq HYq HTq HB1q HBq q0 q1 q2 q3 q4 q5 ⊢
      clear hwq bq h0 h1 h2 h3 h4 h5 HR HY HT HTk HB1 HB yc5 hY hcc
      obtain ⟨⟨Q0, Q1, Q2, Q3, Q4, Q5⟩, hq⟩ : ∃ q, x.f5.getD u z26 = q := ⟨_, rfl⟩
      rw [hq] at HTq q0 q1 q2 q3 q4 q5
      dsimp only at HTq q0 q1 q2 q3 q4 q5
      have HQ := hide hq
      clear hq
      have hwl : (wd.map Int.ofNat).length ≤ 101 := by rw [List.length_map]; exact hwdl
      go_wp2_with (at_builtin; refine Kd.R_append kI (w0 := wq) w1.heap.size rfl (.tmp 41) (.tmp 43) 31 3 (.int .i64 0) 8 rfl Tryd.underlying31 info3 rfl (by decide) (by decide) u8 (wd.map Int.ofNat) (u : Int) [.int .i64 (u : Int)] (fun _ => True) (fun _ => False) rfl rfl rfl (fun k hk => hk.elim) (fun _ _ => trivial) HRq.out (Below.refl _ _) HB1q.out.size (by omega) ?_; intro v1 wB ho hb hg hown; obtain ⟨Av, cv, rfl⟩ := Kd.R_slice ho; have HO := hide ho; have hlY := HXl.out; have hYB := (hb.block (X + 1) hlY).trans HYq.out; have hkb : ∀ j, j < 6 → True := fun _ _ => trivial; clear hkb; have p0 := (hb.cell (p := ak.add (u * 6)) (by have := HAKB.out; show (ak.add (u * 6)).block < w1.heap.size; omega)).trans q0; have p1 := (hb.cell (p := ⟨(ak.add (u * 6)).block, (ak.add (u * 6)).off + 1, none⟩) (by have := HAKB.out; show (ak.add (u * 6)).block < w1.heap.size; omega)).trans q1; have p2 := (hb.cell (p := ⟨(ak.add (u * 6)).block, (ak.add (u * 6)).off + 2, none⟩) (by have := HAKB.out; show (ak.add (u * 6)).block < w1.heap.size; omega)).trans q2; have p3 := (hb.cell (p := ⟨(ak.add (u * 6)).block, (ak.add (u * 6)).off + 3, none⟩) (by have := HAKB.out; show (ak.add (u * 6)).block < w1.heap.size; omega)).trans q3; have p4 := (hb.cell (p := ⟨(ak.add (u * 6)).block, (ak.add (u * 6)).off + 4, none⟩) (by have := HAKB.out; show (ak.add (u * 6)).block < w1.heap.size; omega)).trans q4; have p5 := (hb.cell (p := ⟨(ak.add (u * 6)).block, (ak.add (u * 6)).off + 5, none⟩) (by have := HAKB.out; show (ak.add (u * 6)).block < w1.heap.size; omega)).trans q5; have HYB := hide hYB; have HTB := hide (HTq.out.step (w1 := wB) (fun q hq _ => hb.block q (by have h8 : q < X + 1 := hq; omega))); have HB1B := hide (HB1q.out.trans (hb.mono (by omega))); have HBB := hide (HBq.out.trans (hb.mono (by have := HBw1.out.size; exact this))); clear ho hb hg hown hYB q0 q1 q2 q3 q4 q5 hlY; have y0_ := cell_of_row _ _ 0 _ _ _ HYB.out; have g0 := blk_frozen HYB.out 0; have y1_ := cell_of_row _ _ 1 _ _ _ HYB.out; have g1 := blk_frozen HYB.out 1; have y2_ := cell_of_row _ _ 2 _ _ _ HYB.out; have g2 := blk_frozen HYB.out 2; have y3_ := cell_of_row _ _ 3 _ _ _ HYB.out; have g3 := blk_frozen HYB.out 3; have y4_ := cell_of_row _ _ 4 _ _ _ HYB.out; have g4 := blk_frozen HYB.out 4; have y5_ := cell_of_row _ _ 5 _ _ _ HYB.out; have g5 := blk_frozen HYB.out 5)
      have hO := Kd.R_bound HO.out
      simp only [List.length_append, List.length_map, List.length_cons, List.length_nil, Nat.zero_add] at hO
      have hlY := HXl.out
      have hRY := Kd.R_step hO (fun q hq _ => set6_far (g := X + 1) (a0 := 0) (a1 := 1) (a2 := 2) (a3 := 3) (a4 := 4) (a5 := 5) (v0 := (.int .i64 Q0)) (v1 := (.int .i64 Q1)) (v2 := (.string Q2)) (v3 := (.slice L3 Q3.length f3)) (v4 := (.string Q4)) (v5 := (.slice L5 Q5.length f5)) q (w := wB) (by have h9 := hq.2.1; omega))
      refine ⟨⟨k + 1, by omega, by go_num, ⟨wd ++ [u], ⟨Q0, Q1, Q2, Q3, Q4, Q5⟩, L3, f3, L5, f5, valid_snoc _ _ _ HV.out (by rw [HXN.out]; exact HUL.out), by rw [node_snoc, HXN.out, HQ.out], by rw [List.map_append]; exact Kd.R_mono hRY (fun _ _ => trivial), (blk_set (blk_set (blk_set (blk_set (blk_set (blk_set HYB.out 0 (.int .i64 Q0)) 1 (.int .i64 Q1)) 2 (.string Q2)) 3 (.slice L3 Q3.length f3)) 4 (.string Q4)) 5 (.slice L5 Q5.length f5)), (HTB.out.step (fun q hq _ => set6_far (g := X + 1) (a0 := 0) (a1 := 1) (a2 := 2) (a3 := 3) (a4 := 4) (a5 := 5) (v0 := (.int .i64 Q0)) (v1 := (.int .i64 Q1)) (v2 := (.string Q2)) (v3 := (.slice L3 Q3.length f3)) (v4 := (.string Q4)) (v5 := (.slice L5 Q5.length f5)) q (w := wB) (by have h9 : q < X + 1 := hq; omega))), ?_, ?_⟩⟩, by simp [intOf]; omega⟩
      · exact ((((((HB1B.out.setCell (p := ⟨X + 1, 0, none⟩) (Nat.le_refl _) (.int .i64 Q0)).setCell (p := ⟨X + 1, 1, none⟩) (Nat.le_refl _) (.int .i64 Q1)).setCell (p := ⟨X + 1, 2, none⟩) (Nat.le_refl _) (.string Q2)).setCell (p := ⟨X + 1, 3, none⟩) (Nat.le_refl _) (.slice L3 Q3.length f3)).setCell (p := ⟨X + 1, 4, none⟩) (Nat.le_refl _) (.string Q4)).setCell (p := ⟨X + 1, 5, none⟩) (Nat.le_refl _) (.slice L5 Q5.length f5))
      · exact ((((((HBB.out.setCell (p := ⟨X + 1, 0, none⟩) (by have := HWX.out; show w.heap.size ≤ X + 1; omega) (.int .i64 Q0)).setCell (p := ⟨X + 1, 1, none⟩) (by have := HWX.out; show w.heap.size ≤ X + 1; omega) (.int .i64 Q1)).setCell (p := ⟨X + 1, 2, none⟩) (by have := HWX.out; show w.heap.size ≤ X + 1; omega) (.string Q2)).setCell (p := ⟨X + 1, 3, none⟩) (by have := HWX.out; show w.heap.size ≤ X + 1; omega) (.slice L3 Q3.length f3)).setCell (p := ⟨X + 1, 4, none⟩) (by have := HWX.out; show w.heap.size ≤ X + 1; omega) (.string Q4)).setCell (p := ⟨X + 1, 5, none⟩) (by have := HWX.out; show w.heap.size ≤ X + 1; omega) (.slice L5 Q5.length f5))
    · have HWN2 := HWN
      have hY4 := cell_of_row _ _ 4 _ _ _ hY
      have hXc := (HB1.out.block X (by omega)).trans HX.out
      have HXc := hide hXc
      have HTXc := hide (HTX.out.step (w1 := wr) (fun q hq _ => HB1.out.block q (by have h9 : q < X := hq; omega)))
      have x0_ := cell_of_row _ _ 0 _ _ _ hXc
      have x1_ := cell_of_row _ _ 1 _ _ _ hXc
      have x2_ := cell_of_row _ _ 2 _ _ _ hXc
      have x3_ := cell_of_row _ _ 3 _ _ _ hXc
      have x4_ := cell_of_row _ _ 4 _ _ _ hXc
      have x5_ := cell_of_row _ _ 5 _ _ _ hXc
      have hq := (Kd.R_reads HR.out)
      obtain ⟨Av, cv, rfl, hcv, hCv⟩ := hq
      rw [List.length_map] at hcv
      have HCV := hide hCv
      have HCVL := hide hcv
      rw [List.length_map]
      have hdif := turn_dif (sh ++ ⟨#[33]⟩) wd ⟨a0, a1, a2, a3, a4, a5⟩ HV.out
      rw [HXN.out] at hdif
      obtain ⟨ty, hty, hty4⟩ := turn_at_ (sh ++ ⟨#[33]⟩) wd ⟨a0, a1, a2, a3, a4, a5⟩ HV.out
      have hyW := turn_W (sh ++ ⟨#[33]⟩) wd ⟨a0, a1, a2, a3, a4, a5⟩ HV.out
      have hyA := turn_AL 6 (sh ++ ⟨#[33]⟩) wd ⟨a0, a1, a2, a3, a4, a5⟩ HV.out HAL.out.1
      have hcat : ¬ 9223372036854775807 < sh.size + 1 := by omega
      have HSS := hide (show (sh ++ (⟨#[33]⟩ : ByteArray)).size ≤ 6 by rw [ByteArray.size_append]; show sh.size + 1 ≤ 6; omega)
      obtain ⟨ts, hts⟩ : ∃ ts, sh ++ (⟨#[33]⟩ : ByteArray) = ts := ⟨_, rfl⟩
      rw [hts] at hdif hty hty4 hyW hyA HSS
      have HTS := hide hts
      obtain ⟨⟨y0, y1, y2, y3, y4, y5⟩, hy⟩ : ∃ y, turnL ts wd ⟨a0, a1, a2, a3, a4, a5⟩ = y := ⟨_, rfl⟩
      rw [hy] at hdif hty hyW hyA
      have HYN := hide hy
      have HDIF := hide hdif
      have HTY := hide (And.intro hty hty4)
      have HYW := hide hyW
      have HYA := hide hyA
      clear hts hy hdif hty hty4 hyW hyA hCv hcv hXc
      have HT12 := hide (show ∀ W' : World, Below wr.heap.size wr W' → Calls Tryd.prog 12 #[.agg #[.int .i64 a0, .int .i64 a1, .string a2, .slice A3 a3.length c3, .string a4, .slice A5 a5.length c5], .slice Av wd.length cv, .string (sh ++ ⟨#[33]⟩)] W' fun e w' => ∃ v, e = .returned v ∧ TF w' (fun q => q < wr.heap.size ∨ W'.heap.size ≤ q) v ⟨y0, y1, y2, y3, y4, y5⟩ ∧ Below W'.heap.size W' w' from fun W' hW' => by
        have h := turn_at ts wd.length wd ⟨a0, a1, a2, a3, a4, a5⟩ (.agg #[.int .i64 a0, .int .i64 a1, .string a2, .slice A3 a3.length c3, .string a4, .slice A5 a5.length c5]) W' (fun q => q < wr.heap.size) Av cv rfl HV.out ((HTXc.out.mono (fun q hq => by have h8 : q < X := hq; have h9 := blk_lt HXc.out; show q < wr.heap.size; omega)).below hW') (by have := HAL.out.2; omega) HCVL.out (Kd.C_below HCV.out hW')
        rw [HYN.out, ← HTS.out] at h
        exact h)
      have hx4 := hY4
      by_cases hlt1 : k < way.length
      have hx0 : ¬ 0 < x.f5.length := fun h => hlt ⟨hlt1, h⟩
      have k1 : (k : Int) < (way.length : Int) := by omega
      have k2 : ¬ (0 : Int) < (x.f5.length : Int) := by omega
      clear hlt hlt1 hk
      go_upto_region 10 with fail
      clear k2 hx0
      rotate_left
      have k1 : ¬ (k : Int) < (way.length : Int) := by omega
      clear hlt hlt1 hk
      go_upto_region 10 with fail
      all_goals (
        clear k1 yc5 hY4 hY
        have ba := below_alloc (Below.refl wr.heap.size wr) (.cells #[.int .i64 0, .int .i64 0, .string ⟨#[]⟩, .slice none 0 0, .string ⟨#[]⟩, .slice none 0 0] 26)
        have x0' := cellW x0_ ba
        have x1' := cellW x1_ ba
        have x2' := cellW x2_ ba
        have x3' := cellW x3_ ba
        have x4' := cellW x4_ ba
        have x5' := cellW x5_ ba
        clear ba
        have x0'' := fun m => cellW x0_ (below_alloc (pw_below_drewN (Below.refl wr.heap.size wr) m) (.cells #[.int .i64 0, .int .i64 0, .string ⟨#[]⟩, .slice none 0 0, .string ⟨#[]⟩, .slice none 0 0] 26))
        have x1'' := fun m => cellW x1_ (below_alloc (pw_below_drewN (Below.refl wr.heap.size wr) m) (.cells #[.int .i64 0, .int .i64 0, .string ⟨#[]⟩, .slice none 0 0, .string ⟨#[]⟩, .slice none 0 0] 26))
        have x2'' := fun m => cellW x2_ (below_alloc (pw_below_drewN (Below.refl wr.heap.size wr) m) (.cells #[.int .i64 0, .int .i64 0, .string ⟨#[]⟩, .slice none 0 0, .string ⟨#[]⟩, .slice none 0 0] 26))
        have x3'' := fun m => cellW x3_ (below_alloc (pw_below_drewN (Below.refl wr.heap.size wr) m) (.cells #[.int .i64 0, .int .i64 0, .string ⟨#[]⟩, .slice none 0 0, .string ⟨#[]⟩, .slice none 0 0] 26))
        have x4'' := fun m => cellW x4_ (below_alloc (pw_below_drewN (Below.refl wr.heap.size wr) m) (.cells #[.int .i64 0, .int .i64 0, .string ⟨#[]⟩, .slice none 0 0, .string ⟨#[]⟩, .slice none 0 0] 26))
        have x5'' := fun m => cellW x5_ (below_alloc (pw_below_drewN (Below.refl wr.heap.size wr) m) (.cells #[.int .i64 0, .int .i64 0, .string ⟨#[]⟩, .slice none 0 0, .string ⟨#[]⟩, .slice none 0 0] 26))
        have HZN := hide (heap_alloc_new wr (.cells #[.int .i64 0, .int .i64 0, .string ⟨#[]⟩, .slice none 0 0, .string ⟨#[]⟩, .slice none 0 0] 26))
        go_cut [12] from 50 to 55 (fun v12 wx => Rel11 wr (fun _ => True) ⟨y0, y1, y2, y3, y4, y5⟩ [] v12 (.slice none 0 0) wx)
        case first =>
          go_region_with (first
            | (go_at_call 13; (with_reducible refine (arbourkeep_Head.calls _ _ _ _ HSH.out).mono ?_); rintro e w' ⟨rfl, ⟨n5, rfl⟩⟩)
            | (go_at_call 12; (with_reducible refine (HT12.out ((wr.alloc (.cells #[.int .i64 0, .int .i64 0, .string ⟨#[]⟩, .slice none 0 0, .string ⟨#[]⟩, .slice none 0 0] 26)).drewN (1 + n5)) (pw_below_drewN (below_alloc (Below.refl _ _) _) _)).mono ?_); rintro e wu ⟨v, rfl, hT, hBu⟩; obtain ⟨N3, n3, N5, n5', rfl, -⟩ := hT.open_; have hZ := (hBu.block wr.heap.size (by simp [World.drewN])).trans HZN.out; have p0 := cell_of_row _ _ 0 _ _ _ hZ; have o0 := blk_frozen hZ 0; have p1 := cell_of_row _ _ 1 _ _ _ hZ; have o1 := blk_frozen hZ 1; have p2 := cell_of_row _ _ 2 _ _ _ hZ; have o2 := blk_frozen hZ 2; have p3 := cell_of_row _ _ 3 _ _ _ hZ; have o3 := blk_frozen hZ 3; have p4 := cell_of_row _ _ 4 _ _ _ hZ; have o4 := blk_frozen hZ 4; have p5 := cell_of_row _ _ 5 _ _ _ hZ; have o5 := blk_frozen hZ 5; have HTB := hide hT; have HBB := hide (below_of_drewN hBu); clear hT hBu hZ)
            | (go_at_call 12; (with_reducible refine (HT12.out ((wr.drewN (1 + n5)).alloc (.cells #[.int .i64 0, .int .i64 0, .string ⟨#[]⟩, .slice none 0 0, .string ⟨#[]⟩, .slice none 0 0] 26)) (below_alloc (pw_below_drewN (Below.refl wr.heap.size wr) _) _)).mono ?_); rintro e wu ⟨v, rfl, hT, hBu⟩; obtain ⟨N3, n3, N5, n5', rfl, -⟩ := hT.open_; have hZ := (hBu.block wr.heap.size (by simp [World.drewN])).trans (heap_alloc_new (wr.drewN (1 + n5)) (.cells #[.int .i64 0, .int .i64 0, .string ⟨#[]⟩, .slice none 0 0, .string ⟨#[]⟩, .slice none 0 0] 26)); have p0 := cell_of_row _ _ 0 _ _ _ hZ; have o0 := blk_frozen hZ 0; have p1 := cell_of_row _ _ 1 _ _ _ hZ; have o1 := blk_frozen hZ 1; have p2 := cell_of_row _ _ 2 _ _ _ hZ; have o2 := blk_frozen hZ 2; have p3 := cell_of_row _ _ 3 _ _ _ hZ; have o3 := blk_frozen hZ 3; have p4 := cell_of_row _ _ 4 _ _ _ hZ; have o4 := blk_frozen hZ 4; have p5 := cell_of_row _ _ 5 _ _ _ hZ; have o5 := blk_frozen hZ 5; have HTB := hide hT; have HBB := hide (below_of_drewA hBu); clear hT hBu hZ)
            | (go_at_call 12; (with_reducible refine (HT12.out (wr.drewN (1 + n5)) (pw_below_drewN (Below.refl _ _) _)).mono ?_); rintro e wu ⟨v, rfl, hT, hBu⟩; obtain ⟨N3, n3, N5, n5', rfl, -⟩ := hT.open_; have HTA := hide hT; have HBA := hide hBu; clear hT hBu))
          all_goals (
            go_wp2_with fail
            go_meet
            first
            | (have h := HTA.out
               have hb' := HBA.out
               exact rel11A (y := ⟨y0, y1, y2, y3, y4, y5⟩) (below_step (pw_below_drewN (Below.refl wr.heap.size wr) _) hb') (h.mono (fun _ _ => trivial)) (WF.nil _ _))
            | (have h := HTB.out
               have hb' := HBB.out
               exact rel11B (okk := fun q => q < wr.heap.size ∨ wr.heap.size + 1 ≤ q) (y := ⟨y0, y1, y2, y3, y4, y5⟩) (by simpa [World.drewN] using hb') (h.mono (fun q hq => hq.imp id (fun h => by simpa [World.drewN] using h))) (WF.nil _ _) (fun q hq => by omega) (fun _ _ => trivial)))
        case rest =>
          clear x0_ x0' x0''
          clear x1_ x1' x1''
          clear x2_ x2' x2''
          clear x3_ x3' x3''
          clear x4_ x4' x4''
          clear x5_ x5' x5''
          obtain ⟨X2, N3, n3, N5, n5, rfl, hX2, hT2, -, hX2g, hBc⟩ := hcut
          dsimp only at hX2 hT2
          have hXw := (hBc.block X (blk_lt HXc.out)).trans HXc.out
          have hYw := (hBc.block (X + 1) (blk_lt HY.out)).trans HY.out
          have hdif := HDIF.out
          rw [← HTS.out] at hdif
          have HD := hide (diffTV 6 ⟨a0, a1, a2, a3, a4, a5⟩ ⟨y0, y1, y2, y3, y4, y5⟩ (.agg #[.int .i64 a0, .int .i64 a1, .string a2, .slice A3 a3.length c3, .string a4, .slice A5 a5.length c5]) _ wc (HTXc.out.below hBc).now hT2.now (by omega) HAL.out.1 HYA.out (by have h1 := HAL.out.2; have h2 := HYW.out; omega))
          have HT2 := hide hT2
          have HBc := hide (below_step HB.out hBc)
          have HCv := hide (Kd.C_below HCV.out hBc)
          have a0_ := cell_of_row _ _ 0 _ _ _ hXw
          have a1_ := cell_of_row _ _ 1 _ _ _ hXw
          have a2_ := cell_of_row _ _ 2 _ _ _ hXw
          have a3_ := cell_of_row _ _ 3 _ _ _ hXw
          have a4_ := cell_of_row _ _ 4 _ _ _ hXw
          have a5_ := cell_of_row _ _ 5 _ _ _ hXw
          have b0_ := cell_of_row _ _ 0 _ _ _ hX2
          have b1_ := cell_of_row _ _ 1 _ _ _ hX2
          have b2_ := cell_of_row _ _ 2 _ _ _ hX2
          have b3_ := cell_of_row _ _ 3 _ _ _ hX2
          have b4_ := cell_of_row _ _ 4 _ _ _ hX2
          have b5_ := cell_of_row _ _ 5 _ _ _ hX2
          have y4_ := cell_of_row _ _ 4 _ _ _ hYw
          clear hXw hYw hX2 hT2 hX2g hBc
          cases hq : (x.f4.toList == (sh ++ (⟨#[33]⟩ : ByteArray)).toList) with
          | true =>
            rw [hq, if_pos rfl] at hdif
            rw [hdif] at HD
            have HQ := hide hq
            clear hdif hq
            go_wp2_with fail
            refine HD.out.mono ?_
            rintro e w5 ⟨v1, rfl, hR1, hB5⟩
            dsimp only [resD]
            have y4' := cellW y4_ hB5
            have HB5 := hide (below_step HBc.out hB5)
            clear hR1 hB5 HD a0_ a1_ a2_ a3_ a4_ a5_ b0_ b1_ b2_ b3_ b4_ b5_ y4_
            go_upto_region 12 with fail
            have hq := HQ.out
            first
            | go_quiet ((go_at_call 13; (with_reducible refine (arbourkeep_Head.calls _ _ _ _ HSH.out).mono ?_); rintro e w' ⟨rfl, ⟨⟨nd, rfl⟩⟩⟩; exact ⟨rfl, _, World.drewN_drewN _ _ _⟩))
            | fail
            have HB6 := hide (pw_below_drewN HB5.out nq)
            generalize w5.drewN nq = w6 at HB6 ⊢
            go_wp2_with fail
            refine (known w6).mono ?_
            rintro e w7 ⟨rfl, hB7⟩
            dsimp only
            have HB7 := hide (below_step HB6.out hB7)
            clear hB7
            go_wp2_with fail
            go_ret
            exact ⟨rfl, HB7.out⟩
          | false =>
            rw [hq, if_neg (by decide)] at hdif
            rw [hdif] at HD
            have HQ := hide hq
            clear hdif hq
            go_wp2_with fail
            refine HD.out.mono ?_
            rintro e w5 ⟨v1, rfl, hR1, hB5⟩
            dsimp only [resD] at hR1 ⊢
            obtain ⟨Q1, q1, rfl, hq1, hCQ⟩ := Kd.R_reads hR1
            rw [List.length_map] at hq1 ⊢
            have y4' := cellW y4_ hB5
            have c0_ := cellW b0_ hB5
            have c1_ := cellW b1_ hB5
            have c2_ := cellW b2_ hB5
            have c3_ := cellW b3_ hB5
            have c4_ := cellW b4_ hB5
            have c5_ := cellW b5_ hB5
            have HB5 := hide (below_step HBc.out hB5)
            have HT5 := hide (HT2.out.below hB5)
            have HCQ := hide hCQ
            have HCv5 := hide (Kd.C_below HCv.out hB5)
            have HQ1 := hide hq1
            clear hR1 hB5 HD a0_ a1_ a2_ a3_ a4_ a5_ b0_ b1_ b2_ b3_ b4_ b5_ y4_ hCQ hq1
            go_upto_region 12 with fail
            have hq := HQ.out
            first
            | go_quiet ((go_at_call 13; (with_reducible refine (arbourkeep_Head.calls _ _ _ _ HSH.out).mono ?_); rintro e w' ⟨rfl, ⟨⟨nd, rfl⟩⟩⟩; exact ⟨rfl, _, World.drewN_drewN _ _ _⟩))
            | fail
            have b6 := pw_below_drewN (Below.refl w5.heap.size w5) nq
            have HB6 := hide (below_step HB5.out b6)
            have HT6 := hide (HT5.out.below b6)
            have HCQ6 := hide (Kd.C_below HCQ.out b6)
            have HCv6 := hide (Kd.C_below HCv5.out b6)
            have d0_ := cellW c0_ b6
            have d1_ := cellW c1_ b6
            have d2_ := cellW c2_ b6
            have d3_ := cellW c3_ b6
            have d4_ := cellW c4_ b6
            have d5_ := cellW c5_ b6
            generalize w5.drewN nq = w6 at HB6 HT6 HCQ6 HCv6 d0_ d1_ d2_ d3_ d4_ d5_ ⊢
            clear b6 y4' c0_ c1_ c2_ c3_ c4_ c5_ HT5 HCQ HCv5
            have hcall := at_ ⟨y0, y1, y2, y3, y4, y5⟩ (.agg #[.int .i64 y0, .int .i64 y1, .string y2, .slice N3 y3.length n3, .string y4, .slice N5 y5.length n5]) Av cv (wd.map Int.ofNat) w6 (fun _ => True) HT6.out HCv6.out (by have h1 := HAL.out.2; have h2 := HYW.out; omega) (AL_up 6 100000000 (by omega) _ _ (Nat.le_refl _) HYA.out)
            rw [List.length_map, HTY.out.1] at hcall
            have HCALL := hide hcall
            clear hcall hq
            go_wp2_with fail
            refine HCALL.out.mono ?_
            rintro e w7 ⟨v2, rfl, hT7, hB7⟩
            obtain ⟨E3, e3, E5, e5, rfl, -⟩ := hT7.open_
            dsimp only [Option.isSome_some, Option.getD_some]
            rw [HTY.out.2]
            have HB7 := hide (below_step HB6.out hB7)
            have HCQ7 := hide (Kd.C_below HCQ6.out hB7)
            have HCv7 := hide (Kd.C_below HCv6.out hB7)
            clear hT7 hB7 HCALL d0_ d1_ d2_ d3_ d4_ d5_
            go_upto_region 15 with fail
            have b8 := below_alloc (Below.refl w7.heap.size w7) (.cells #[.int .i64 ty.f0, .int .i64 ty.f1, .string ty.f2, .slice E3 ty.f3.length e3, .string ts, .slice E5 ty.f5.length e5] 26)
            have c8 := cell_of_row _ _ 4 _ _ _ (heap_alloc_new w7 (.cells #[.int .i64 ty.f0, .int .i64 ty.f1, .string ty.f2, .slice E3 ty.f3.length e3, .string ts, .slice E5 ty.f5.length e5] 26))
            have HB8 := hide (below_step HB7.out b8)
            have HCQ8 := hide (Kd.C_below HCQ7.out b8)
            have HCv8 := hide (Kd.C_below HCv7.out b8)
            obtain ⟨w8, hw8⟩ : ∃ w8, w7.alloc (.cells #[.int .i64 ty.f0, .int .i64 ty.f1, .string ty.f2, .slice E3 ty.f3.length e3, .string ts, .slice E5 ty.f5.length e5] 26) = w8 := ⟨_, rfl⟩
            rw [hw8] at c8 HB8 HCQ8 HCv8 ⊢
            clear hw8 b8
            generalize w7.heap.size = Z at c8 ⊢
            have c9 : w8.cell? ⟨Z, 4, none⟩ = some (.string (sh ++ ⟨#[33]⟩)) := by rw [HTS.out]; exact c8
            clear c8
            have HSM := hide (show ∀ W' : World, Below w8.heap.size w8 W' → Calls Tryd.prog 16 #[.slice Q1 wd.length q1, .slice Av wd.length cv] W' fun e w' => e = .returned (.bool true) ∧ Drawn0 W' w' from fun W' hW' => by
              have h := arbourbook_Same_int.calls ((wd.map Int.ofNat).length + 1) Q1 q1 (wd.map Int.ofNat) Av cv (wd.map Int.ofNat) true W' (Kd.C_below HCQ8.out hW') (by rw [List.length_map]; exact HQ1.out) (Kd.C_below HCv8.out hW') (by rw [List.length_map]; exact HCVL.out) (sameInts _ (by rw [List.length_map]; omega))
              rw [List.length_map] at h
              exact h)
            go_region_with (first
              | (go_at_call 16; (with_reducible refine (HSM.out _ (by first | exact (Below.refl _ _).drew | exact pw_below_drewN (Below.refl _ _) _)).mono ?_); rintro e w' ⟨rfl, ⟨n7, rfl⟩⟩)
              | (go_at_call 13; (with_reducible refine (arbourkeep_Head.calls _ _ _ _ HSH.out).mono ?_); rintro e w' ⟨rfl, ⟨n8, rfl⟩⟩)
              | (go_at_call 10; (with_reducible refine (known _).mono ?_); rintro e w9 ⟨rfl, hB9⟩; have HB9 := hide hB9; clear hB9))
            all_goals (
              go_wp2_with fail
              go_ret
              exact ⟨rfl, below_step HB8.out (show Below w8.heap.size w8 w9 from by first | exact below_of_drewN HB9.out | exact below_of_drew HB9.out)⟩))
end Go.Proofs.YteglfgmgpbablaaDoor.Cmp
