/- The walk of the law TreeTells: it is true. -/
import Derived.Test.YtaponaemgolmoaaTrSame14
import Derived.Test.YtaponaemgolmoaaTrKnown
namespace Go.Proofs.Ytaponaemgolmoaa.Tr
open Go.RowKit Go.Proofs.Ytaponaemgolmoaa.PTreeTells Go.Proofs.YtaponaemgolmoaaW.PrintWords Go.Proofs.YtaponaemgolmoaaW.PrintLast
set_option linter.unusedVariables false
set_option linter.unusedSimpArgs false
theorem grow_sm' (right : Bool) (l : List S30) : ∃ t, growL right l = t ∧ Sm t := ⟨_, rfl, grow_sm right l⟩
/-- 'grow', its tree opened. -/
theorem growV (right : Bool) (l : List S30) (A : Option Addr) (c : Nat) (w : World) (hC : k30.C w A l.length l) (hc : l.length ≤ c) :
    Calls Try.prog 9 #[.slice A l.length c, .bool right] w fun e w' => ∃ (A3 : Option Addr) (c3 : Nat) (A5 : Option Addr) (c5 : Nat), e = .returned (.agg #[.int .i64 (growL right l).f0, .int .i64 (growL right l).f1, .string (growL right l).f2, .slice A3 (growL right l).f3.length c3, .string (growL right l).f4, .slice A5 (growL right l).f5.length c5]) ∧ TV w' (.agg #[.int .i64 (growL right l).f0, .int .i64 (growL right l).f1, .string (growL right l).f2, .slice A3 (growL right l).f3.length c3, .string (growL right l).f4, .slice A5 (growL right l).f5.length c5]) (growL right l) ∧ Below w.heap.size w w' :=
  (grow right l A c w hC hc).mono fun e w' ⟨v, he, ht, hb⟩ => by
    obtain ⟨A3, c3, A5, c5, rfl, -⟩ := ht.open_
    exact ⟨A3, c3, A5, c5, he, ht.now, hb⟩
theorem boxes2 (w : World) (u v : Array Value) : ∃ w2, (w.alloc (.cells u 26)).alloc (.cells v 26) = w2 ∧ Below w.heap.size w w2 ∧ w2.heap[w.heap.size]? = some (.cells u 26 (0, 0)) ∧ w2.heap[w.heap.size + 1]? = some (.cells v 26 (0, 0)) := by
  have h1 := heap_alloc_new w (.cells u 26)
  have s1 : (w.alloc (.cells u 26)).heap.size = w.heap.size + 1 := by simp
  have h2 := heap_alloc_new (w.alloc (.cells u 26)) (.cells v 26)
  have b2 := below_alloc (Below.refl (w.alloc (.cells u 26)).heap.size (w.alloc (.cells u 26))) (.cells v 26)
  rw [s1] at h2
  exact ⟨_, rfl, below_step (below_alloc (Below.refl _ _) _) b2, (b2.block _ (by omega)).trans h1, h2⟩
set_option maxHeartbeats 20000000 in
set_option maxRecDepth 100000 in
theorem treeTells (l m : List S30) (A B : Option Addr) (c d : Nat) (w : World) (hl : k30.C w A l.length l) (hc : l.length ≤ c) (hm : k30.C w B m.length m) (hd : m.length ≤ d) :
    Calls Try.prog 6 #[.slice A l.length c, .slice B m.length d] w (RetV w (.bool true)) := by
  have HL := hide (fun (r : Bool) (W : World) (h : Below w.heap.size w W) => growV r l A c W (Kd.C_below hl h) hc)
  have HM := hide (fun (r : Bool) (W : World) (h : Below w.heap.size w W) => growV r m B d W (Kd.C_below hm h) hd)
  obtain ⟨p, hp, sp⟩ := grow_sm' false l
  obtain ⟨q, hq, sq⟩ := grow_sm' false m
  obtain ⟨r, hr, sr⟩ := grow_sm' true l
  obtain ⟨s, hs, ss⟩ := grow_sm' true m
  have HL0 := hide (fun W h => HL.out false W h)
  have HL1 := hide (fun W h => HL.out true W h)
  have HM0 := hide (fun W h => HM.out false W h)
  have HM1 := hide (fun W h => HM.out true W h)
  rw [hp] at HL0
  rw [hq] at HM0
  rw [hr] at HL1
  rw [hs] at HM1
  clear hl hm HL HM hp hq hr hs
  obtain ⟨n, hn⟩ : ∃ n, l.length = n := ⟨_, rfl⟩
  obtain ⟨k, hk⟩ : ∃ n, m.length = n := ⟨_, rfl⟩
  rw [hn] at HL0 HL1 ⊢
  rw [hk] at HM0 HM1 ⊢
  clear hn hk hc hd
  obtain ⟨p0, p1, p2, p3, p4, p5⟩ := p
  obtain ⟨q0, q1, q2, q3, q4, q5⟩ := q
  obtain ⟨r0, r1, r2, r3, r4, r5⟩ := r
  obtain ⟨s0, s1, s2, s3, s4, s5⟩ := s
  dsimp only at *
  go_enter Try.func6, Try.ntmps6
  go_upto_region 2 with (first | (go_at_call 9; (with_reducible refine (HL0.out _ (Below.refl _ _)).mono ?_); rintro e wa ⟨A3, c3, A5, c5, rfl, ta, ba⟩; have HTA := hide ta; have HBA := hide ba; clear ta ba) | (go_at_call 9; (with_reducible refine (HM0.out _ HBA.out).mono ?_); rintro e wb ⟨B3, d3, B5, d5, rfl, tb, bb⟩; have HTB := hide tb; have HBB := hide (below_step HBA.out bb); have HTA2 := hide (HTA.out.below bb); clear tb bb))
  obtain ⟨w2, hw2, bw2, hP, hQ⟩ := boxes2 wb #[.int .i64 p0, .int .i64 p1, .string p2, .slice A3 p3.length c3, .string p4, .slice A5 p5.length c5] #[.int .i64 q0, .int .i64 q1, .string q2, .slice B3 q3.length d3, .string q4, .slice B5 q5.length d5]
  rw [hw2]
  clear hw2
  have HB2 := hide (below_step HBB.out bw2)
  have HTP := hide (HTA2.out.below bw2)
  have HTQ := hide (HTB.out.below bw2)
  generalize wb.heap.size = X at *
  clear HTA2 HTA HTB HBA HBB bw2
  go_upto_region 3 with (first | (go_at_call 9; (with_reducible refine (HL1.out _ HB2.out).mono ?_); rintro e wc ⟨E3, e3, E5, e5, rfl, tc, bc⟩; have HTC := hide tc; have HBC := hide bc; clear tc bc) | (go_at_call 9; (with_reducible refine (HM1.out _ (below_step HB2.out HBC.out)).mono ?_); rintro e wd ⟨F3, f3, F5, f5, rfl, td, bd⟩; have HTD := hide td; have HBD := hide (below_step HBC.out bd); have HTC2 := hide (HTC.out.below bd); clear td bd))
  obtain ⟨w4, hw4, bw4, hR, hS⟩ := boxes2 wd #[.int .i64 r0, .int .i64 r1, .string r2, .slice E3 r3.length e3, .string r4, .slice E5 r5.length e5] #[.int .i64 s0, .int .i64 s1, .string s2, .slice F3 s3.length f3, .string s4, .slice F5 s5.length f5]
  rw [hw4]
  clear hw4
  have b24 := below_step HBD.out bw4
  have HB4 := hide (below_step HB2.out b24)
  have hP2 := (b24.block _ (blk_lt hP)).trans hP
  have hQ2 := (b24.block _ (blk_lt hQ)).trans hQ
  have tp := HTP.out.below b24
  have tq := HTQ.out.below b24
  have tr := HTC2.out.below bw4
  have ts := HTD.out.below bw4
  have HA := hide (fun W (h : Below w4.heap.size w4 W) => same14 _ _ _ _ W (tp.below h) (tq.below h) sp)
  have HC := hide (fun W (h : Below w4.heap.size w4 W) => same14 _ _ _ _ W (tr.below h) (ts.below h) sr)
  have HD := hide (fun W (h : Below w4.heap.size w4 W) => same14 _ _ _ _ W (ts.below h) (tr.below h) ss)
  clear tp tq tr ts HTP HTQ HTC HTC2 HTD HBC HBD bw4 b24 HL0 HL1 HM0 HM1 hP hQ sp sq sr ss
  generalize wd.heap.size = Y at *
  have p0_ := cell_of_row _ _ 0 _ _ _ hP2
  have p1_ := cell_of_row _ _ 1 _ _ _ hP2
  have p2_ := cell_of_row _ _ 2 _ _ _ hP2
  have p3_ := cell_of_row _ _ 3 _ _ _ hP2
  have p4_ := cell_of_row _ _ 4 _ _ _ hP2
  have p5_ := cell_of_row _ _ 5 _ _ _ hP2
  have q0_ := cell_of_row _ _ 0 _ _ _ hQ2
  have q1_ := cell_of_row _ _ 1 _ _ _ hQ2
  have q2_ := cell_of_row _ _ 2 _ _ _ hQ2
  have q3_ := cell_of_row _ _ 3 _ _ _ hQ2
  have q4_ := cell_of_row _ _ 4 _ _ _ hQ2
  have q5_ := cell_of_row _ _ 5 _ _ _ hQ2
  have r0_ := cell_of_row _ _ 0 _ _ _ hR
  have r1_ := cell_of_row _ _ 1 _ _ _ hR
  have r2_ := cell_of_row _ _ 2 _ _ _ hR
  have r3_ := cell_of_row _ _ 3 _ _ _ hR
  have r4_ := cell_of_row _ _ 4 _ _ _ hR
  have r5_ := cell_of_row _ _ 5 _ _ _ hR
  have s0_ := cell_of_row _ _ 0 _ _ _ hS
  have s1_ := cell_of_row _ _ 1 _ _ _ hS
  have s2_ := cell_of_row _ _ 2 _ _ _ hS
  have s3_ := cell_of_row _ _ 3 _ _ _ hS
  have s4_ := cell_of_row _ _ 4 _ _ _ hS
  have s5_ := cell_of_row _ _ 5 _ _ _ hS
  clear hP2 hQ2 hR hS
  have b0 := Below.refl w4.heap.size w4
  go_wp2_with (first | (go_at_call 16; (with_reducible refine (HA.out _ b0).mono ?_); rintro e wx1 ⟨rfl, bx1⟩; have by1 := below_step b0 bx1; have p0_1 := cellW p0_ by1; have p1_1 := cellW p1_ by1; have p2_1 := cellW p2_ by1; have p3_1 := cellW p3_ by1; have p4_1 := cellW p4_ by1; have p5_1 := cellW p5_ by1; have q0_1 := cellW q0_ by1; have q1_1 := cellW q1_ by1; have q2_1 := cellW q2_ by1; have q3_1 := cellW q3_ by1; have q4_1 := cellW q4_ by1; have q5_1 := cellW q5_ by1; have r0_1 := cellW r0_ by1; have r1_1 := cellW r1_ by1; have r2_1 := cellW r2_ by1; have r3_1 := cellW r3_ by1; have r4_1 := cellW r4_ by1; have r5_1 := cellW r5_ by1; have s0_1 := cellW s0_ by1; have s1_1 := cellW s1_ by1; have s2_1 := cellW s2_ by1; have s3_1 := cellW s3_ by1; have s4_1 := cellW s4_ by1; have s5_1 := cellW s5_ by1) | (go_at_call 16; (with_reducible refine (HC.out _ by1).mono ?_); rintro e wx2 ⟨rfl, bx2⟩; have by2 := below_step by1 bx2; have p0_2 := cellW p0_ by2; have p1_2 := cellW p1_ by2; have p2_2 := cellW p2_ by2; have p3_2 := cellW p3_ by2; have p4_2 := cellW p4_ by2; have p5_2 := cellW p5_ by2; have q0_2 := cellW q0_ by2; have q1_2 := cellW q1_ by2; have q2_2 := cellW q2_ by2; have q3_2 := cellW q3_ by2; have q4_2 := cellW q4_ by2; have q5_2 := cellW q5_ by2; have r0_2 := cellW r0_ by2; have r1_2 := cellW r1_ by2; have r2_2 := cellW r2_ by2; have r3_2 := cellW r3_ by2; have r4_2 := cellW r4_ by2; have r5_2 := cellW r5_ by2; have s0_2 := cellW s0_ by2; have s1_2 := cellW s1_ by2; have s2_2 := cellW s2_ by2; have s3_2 := cellW s3_ by2; have s4_2 := cellW s4_ by2; have s5_2 := cellW s5_ by2) | (go_at_call 16; (with_reducible refine (HD.out _ by2).mono ?_); rintro e wx3 ⟨rfl, bx3⟩; have by3 := below_step by2 bx3; have p0_3 := cellW p0_ by3; have p1_3 := cellW p1_ by3; have p2_3 := cellW p2_ by3; have p3_3 := cellW p3_ by3; have p4_3 := cellW p4_ by3; have p5_3 := cellW p5_ by3; have q0_3 := cellW q0_ by3; have q1_3 := cellW q1_ by3; have q2_3 := cellW q2_ by3; have q3_3 := cellW q3_ by3; have q4_3 := cellW q4_ by3; have q5_3 := cellW q5_ by3; have r0_3 := cellW r0_ by3; have r1_3 := cellW r1_ by3; have r2_3 := cellW r2_ by3; have r3_3 := cellW r3_ by3; have r4_3 := cellW r4_ by3; have r5_3 := cellW r5_ by3; have s0_3 := cellW s0_ by3; have s1_3 := cellW s1_ by3; have s2_3 := cellW s2_ by3; have s3_3 := cellW s3_ by3; have s4_3 := cellW s4_ by3; have s5_3 := cellW s5_ by3) | (go_at_call 13; (with_reducible refine (known _).mono ?_); rintro e wk ⟨rfl, bk⟩; have byk := below_step by3 bk))
  go_ret
  exact ⟨rfl, below_step HB4.out byk⟩
/-- The law, as its row calls it. -/
theorem tells (A : Option Addr) (c : Nat) (l : List S30) (B : Option Addr) (d : Nat) (m : List S30) (w : World) (hl : k30.C w A l.length l ∧ l.length ≤ c) (hm : k30.C w B m.length m ∧ m.length ≤ d) :
    Calls Try.prog 6 #[.slice A l.length c, .slice B m.length d] w fun e w' => e = .returned (.bool true) ∧ Below w.heap.size w w' :=
  treeTells l m A B c d w hl.1 hl.2 hm.1 hm.2
end Go.Proofs.Ytaponaemgolmoaa.Tr
