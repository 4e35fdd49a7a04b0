/- The walk of arbourlaw24.under. -/
import Derived.Test.YteglfgmgpbablaaDoorCmpFoot
import Derived.Deep.DeepCutAuto
import Derived.Deep.CutBlock
namespace Go.Proofs.YteglfgmgpbablaaDoor.Cmp
open Go.RowKit Go.Proofs.YteglfgmgpbablaaDoor.PCompareTells Go.Proofs.YteglfgmgpbablaaDoorW.PrintWords Go.Proofs.YteglfgmgpbablaaDoorW.PrintLast
def isTxt (l : List S26) : Bool := match l.getLast? with
  | some x => x.f0 == 4
  | none => false
def addL (t x : S26) : S26 := ⟨t.f0, t.f1, t.f2, t.f3, t.f4, t.f5 ++ [x]⟩
/-- What 'under' makes. -/
def underL (x : S26) : List Nat → S26 → S26 × List Nat
  | [], t => if x.f0 == 4 && isTxt t.f5 then (t, []) else (addL t x, if x.f0 == 3 then [t.f5.length] else [])
  | k :: r, t => (⟨t.f0, t.f1, t.f2, t.f3, t.f4, t.f5.set k (underL x r (t.f5.getD k z26)).1⟩, k :: (underL x r (t.f5.getD k z26)).2)
def ValidW : List Nat → S26 → Prop
  | [], _ => True
  | k :: r, t => k < t.f5.length ∧ ValidW r (t.f5.getD k z26)
theorem lit_int {w : World} {g : Nat} {ty : TypeId} {fr : Nat × Nat} {n : Nat} (h : w.heap[g]? = some (.cells #[.int .i64 (n : Int)] ty fr)) : kI.C w (some ⟨g, 0, none⟩) ([n].map Int.ofNat).length ([n].map Int.ofNat) := by
  refine ⟨rfl, by simp, fun _ => ⟨_, rfl, fun j p hj => ?_⟩⟩
  match j, hj with
  | 0, hj =>
    cases hj
    refine ⟨[.int .i64 (n : Int)], rfl, rfl, fun i u hu => ?_⟩
    match i, hu with
    | 0, hu =>
      rw [← hu, add0, cell_of_row w g _ _ _ _ h]
      rfl
/-- Behind the new kids' row. -/
def Rel5 (w : World) (X3 X5 X6 N : Nat) (t x : S26) (A3 : Option Addr) (c3 : Nat) (B3 : Option Addr) (d3 : Nat) (B5 : Option Addr) (d5 : Nat) (rs : List Raw) (wx : World) : Prop := ∃ (Av : Option Addr) (cv : Nat), wx.heap[X3]? = some (.cells #[.int .i64 t.f0, .int .i64 t.f1, .string t.f2, .slice A3 t.f3.length c3, .string t.f4, .slice Av (t.f5.length + 1) cv] 26 (0, 0)) ∧ wx.heap[X5]? = some (.cells #[.int .i64 x.f0, .int .i64 x.f1, .string x.f2, .slice B3 x.f3.length d3, .string x.f4, .slice B5 x.f5.length d5] 26 (0, 0)) ∧ wx.heap[X6]? = some (.cells #[.int .i64 0, .int .i64 0, .string ⟨#[]⟩, .slice none 0 0, .string ⟨#[]⟩, .slice none 0 0] 26 (0, 0)) ∧ kRaw.R 26 wx N (fun k => N ≤ k) (.slice Av (t.f5.length + 1) cv) (rs ++ [⟨⟨.int .i64 x.f0, rfl⟩, ⟨.int .i64 x.f1, rfl⟩, ⟨.string x.f2, rfl⟩, ⟨.slice B3 x.f3.length d3, rfl⟩, ⟨.string x.f4, rfl⟩, ⟨.slice B5 x.f5.length d5, rfl⟩⟩]) ∧ Below w.heap.size w wx
set_option maxHeartbeats 20000000 in
set_option maxRecDepth 100000 in
theorem under0 (t x : S26) (vt vx : Value) (w : World) (ok : Nat → Prop) (Aw : Option Addr) (cw : Nat) (ht : TF w ok vt t) (hx : TF w ok vx x) (hn : t.f5.length ≤ 100000000) :
    Calls Tryd.prog 21 #[vt, .slice Aw 0 cw, vx] w fun e w' => ∃ v vw, e = .returned (.tuple #[v, vw]) ∧ TF w' (fun k => ok k ∨ w.heap.size ≤ k) v (underL x [] t).1 ∧ WF w' (fun k => ok k ∨ w.heap.size ≤ k) vw (underL x [] t).2 ∧ Below w.heap.size w w' := by
  obtain ⟨A3, c3, A5, c5, rfl, l3, ff3, l5, ff5⟩ := ht.open_
  obtain ⟨B3, d3, B5, d5, rfl, m3, fj3, m5, fj5⟩ := hx.open_
  have g3 := Kd.F_now ff3
  have g5 := Kd.F_now ff5
  have j3 := Kd.F_now fj3
  have j5 := Kd.F_now fj5
  obtain ⟨rs, hrs, hKL⟩ := C_raw g5
  have hlr := hKL.len
  have HF3 := hide ff3
  have HF5 := hide ff5
  have HKK := hide (KL_app (KL_foot ff5 hrs hKL) (KL_one x m3 fj3 m5 fj5))
  clear ff3 ff5 fj3 fj5 ht hx
  have hb1 := below_alloc (Below.refl w.heap.size w) (.cells #[.int .i64 t.f0, .int .i64 t.f1, .string t.f2, .slice A3 t.f3.length c3, .string t.f4, .slice A5 t.f5.length c5] 26)
  have hs1 : (w.alloc (.cells #[.int .i64 t.f0, .int .i64 t.f1, .string t.f2, .slice A3 t.f3.length c3, .string t.f4, .slice A5 t.f5.length c5] 26)).heap.size = w.heap.size + 1 := by simp
  have hn1 := heap_alloc_new w (.cells #[.int .i64 t.f0, .int .i64 t.f1, .string t.f2, .slice A3 t.f3.length c3, .string t.f4, .slice A5 t.f5.length c5] 26)
  obtain ⟨w1, hw1⟩ : ∃ w1, w.alloc (.cells #[.int .i64 t.f0, .int .i64 t.f1, .string t.f2, .slice A3 t.f3.length c3, .string t.f4, .slice A5 t.f5.length c5] 26) = w1 := ⟨_, rfl⟩
  rw [hw1] at hb1 hs1 hn1
  have hb2 := below_alloc (Below.refl w1.heap.size w1) (.cells #[.int .i64 x.f0, .int .i64 x.f1, .string x.f2, .slice B3 x.f3.length d3, .string x.f4, .slice B5 x.f5.length d5] 26)
  have hn2 := heap_alloc_new w1 (.cells #[.int .i64 x.f0, .int .i64 x.f1, .string x.f2, .slice B3 x.f3.length d3, .string x.f4, .slice B5 x.f5.length d5] 26)
  have hs2 : (w1.alloc (.cells #[.int .i64 x.f0, .int .i64 x.f1, .string x.f2, .slice B3 x.f3.length d3, .string x.f4, .slice B5 x.f5.length d5] 26)).heap.size = w.heap.size + 2 := by simp [hs1]
  obtain ⟨w2, hw2⟩ : ∃ w2, w1.alloc (.cells #[.int .i64 x.f0, .int .i64 x.f1, .string x.f2, .slice B3 x.f3.length d3, .string x.f4, .slice B5 x.f5.length d5] 26) = w2 := ⟨_, rfl⟩
  rw [hw2] at hb2 hn2 hs2
  have hb3 := below_alloc (Below.refl w2.heap.size w2) (.cells #[.int .i64 0, .int .i64 0, .string ⟨#[]⟩, .slice none 0 0, .string ⟨#[]⟩, .slice none 0 0] 26)
  have hn3 := heap_alloc_new w2 (.cells #[.int .i64 0, .int .i64 0, .string ⟨#[]⟩, .slice none 0 0, .string ⟨#[]⟩, .slice none 0 0] 26)
  have hs3 : (w2.alloc (.cells #[.int .i64 0, .int .i64 0, .string ⟨#[]⟩, .slice none 0 0, .string ⟨#[]⟩, .slice none 0 0] 26)).heap.size = w.heap.size + 3 := by simp [hs2]
  obtain ⟨w3, hw3⟩ : ∃ w3, w2.alloc (.cells #[.int .i64 0, .int .i64 0, .string ⟨#[]⟩, .slice none 0 0, .string ⟨#[]⟩, .slice none 0 0] 26) = w3 := ⟨_, rfl⟩
  rw [hw3] at hb3 hn3 hs3
  have b02 := below_step hb1 hb2
  have b03 := below_step b02 hb3
  have HT := hide ((hb3.block _ (by omega)).trans ((hb2.block _ (by omega)).trans hn1))
  have HX := hide ((hb3.block _ (by omega)).trans hn2)
  have HZ := hide hn3
  have HB := hide b03
  have HB3 := hide hb3
  have HB2 := hide b02
  have HG3_ := hide (Kd.C_below g3 b02)
  have HG5_ := hide (Kd.C_below g5 b02)
  have HS := hide hs3
  have HZ1 := hide hs1
  have HZ2 := hide hs2
  have HW1 := hide hw1
  have HW2 := hide hw2
  have HW3 := hide hw3
  have HG3 := hide (Kd.C_below g3 b03)
  have HG5 := hide (Kd.C_below g5 b03)
  have HJ3 := hide (Kd.C_below j3 b03)
  have HJ5 := hide (Kd.C_below j5 b03)
  have HRS := hide (Kd.C_below hrs b03)
  have HKL := hide (hKL.step b03)
  have HLR := hide hlr
  have HKL0 := hide hKL
  have HG30 := hide g3
  have HXK0 := hide (k26_mk w x m3 j3 m5 j5)
  have HL := hide (And.intro l3 (And.intro l5 (And.intro m3 m5)))
  clear hb1 hs1 hn1 hb2 hn2 hs2 hb3 hn3 hs3 hw1 hw2 hw3 b02 b03 g3 g5 j3 j5 hrs hKL hlr l3 l5 m3 m5
  obtain ⟨t0, t1, t2, t3, t4, t5⟩ := t
  obtain ⟨x0, x1, x2, x3, x4, x5⟩ := x
  dsimp only at *
  go_enter Tryd.func21, Tryd.ntmps21
  have a0 : w3.cell? ⟨w.heap.size, 0, none⟩ = some (.int .i64 t0) := cell_of_row _ _ 0 _ _ _ HT.out
  have a1 : w3.cell? ⟨w.heap.size, 1, none⟩ = some (.int .i64 t1) := cell_of_row _ _ 1 _ _ _ HT.out
  have a2 : w3.cell? ⟨w.heap.size, 2, none⟩ = some (.string t2) := cell_of_row _ _ 2 _ _ _ HT.out
  have a3 : w3.cell? ⟨w.heap.size, 3, none⟩ = some (.slice A3 t3.length c3) := cell_of_row _ _ 3 _ _ _ HT.out
  have a4 : w3.cell? ⟨w.heap.size, 4, none⟩ = some (.string t4) := cell_of_row _ _ 4 _ _ _ HT.out
  have a5 : w3.cell? ⟨w.heap.size, 5, none⟩ = some (.slice A5 t5.length c5) := cell_of_row _ _ 5 _ _ _ HT.out
  have b0 : w3.cell? ⟨w1.heap.size, 0, none⟩ = some (.int .i64 x0) := cell_of_row _ _ 0 _ _ _ HX.out
  have b1 : w3.cell? ⟨w1.heap.size, 1, none⟩ = some (.int .i64 x1) := cell_of_row _ _ 1 _ _ _ HX.out
  have b2 : w3.cell? ⟨w1.heap.size, 2, none⟩ = some (.string x2) := cell_of_row _ _ 2 _ _ _ HX.out
  have b3 : w3.cell? ⟨w1.heap.size, 3, none⟩ = some (.slice B3 x3.length d3) := cell_of_row _ _ 3 _ _ _ HX.out
  have b4 : w3.cell? ⟨w1.heap.size, 4, none⟩ = some (.string x4) := cell_of_row _ _ 4 _ _ _ HX.out
  have b5 : w3.cell? ⟨w1.heap.size, 5, none⟩ = some (.slice B5 x5.length d5) := cell_of_row _ _ 5 _ _ _ HX.out
  have f0 := blk_frozen HZ.out 0
  have f1 := blk_frozen HZ.out 1
  have f2 := blk_frozen HZ.out 2
  have f3 := blk_frozen HZ.out 3
  have f4 := blk_frozen HZ.out 4
  have f5 := blk_frozen HZ.out 5
  have y0 := cell_of_row _ _ 0 _ _ _ HZ.out
  have y1 := cell_of_row _ _ 1 _ _ _ HZ.out
  have y2 := cell_of_row _ _ 2 _ _ _ HZ.out
  have y3 := cell_of_row _ _ 3 _ _ _ HZ.out
  have y4 := cell_of_row _ _ 4 _ _ _ HZ.out
  have y5 := cell_of_row _ _ 5 _ _ _ HZ.out
  cases e4 : (x0 == 4 && isTxt t5) with
  | true =>
    have hl : 0 < t5.length := by
      cases t5 with
      | nil => simp [isTxt] at e4
      | cons _ _ => simp
    have e40 : (x0 == 4) = true := (Bool.and_eq_true_iff.1 e4).1
    obtain ⟨ad, hA, hk⟩ := TAt_kid HG5.out (t5.length - 1) (by omega)
    subst hA
    obtain ⟨_, _, _, _, k0, _⟩ := hk
    have hlast : ((rd_T26 t5 ((t5.length - 1 : Nat) : Int)).f0 == 4) = true := by
      have h2 := (Bool.and_eq_true_iff.1 e4).2
      unfold isTxt at h2
      rw [List.getLast?_eq_getElem?, List.getElem?_eq_getElem (by omega)] at h2
      unfold rd_T26
      simp only [Int.toNat_natCast, List.getD, List.getElem?_eq_getElem (show t5.length - 1 < t5.length by omega), Option.getD_some]
      exact h2
    have hl1 : (0 : Int) < (t5.length : Int) := by omega
    have hl2 : ((t5.length : Int) - 1) = ((t5.length - 1 : Nat) : Int) := by omega
    have hw1 := HW1.out
    have hw2 := HW2.out
    have hw3 := HW3.out
    have E4 := hide e4
    clear hl e4
    go_wp2_with fail
    have hfin := blk_set (blk_set (blk_set (blk_set (blk_set (blk_set HZ.out 0 (.int .i64 t0)) 1 (.int .i64 t1)) 2 (.string t2)) 3 (.slice A3 t3.length c3)) 4 (.string t4)) 5 (.slice (some ad) t5.length c5)
    have hb := (((((HB3.out.setCell (p := ⟨w2.heap.size, 0, none⟩) (Nat.le_refl _) (.int .i64 t0)).setCell (p := ⟨w2.heap.size, 1, none⟩) (Nat.le_refl _) (.int .i64 t1)).setCell (p := ⟨w2.heap.size, 2, none⟩) (Nat.le_refl _) (.string t2)).setCell (p := ⟨w2.heap.size, 3, none⟩) (Nat.le_refl _) (.slice A3 t3.length c3)).setCell (p := ⟨w2.heap.size, 4, none⟩) (Nat.le_refl _) (.string t4)).setCell (p := ⟨w2.heap.size, 5, none⟩) (Nat.le_refl _) (.slice (some ad) t5.length c5)
    have hu : underL ⟨x0, x1, x2, x3, x4, x5⟩ [] ⟨t0, t1, t2, t3, t4, t5⟩ = (⟨t0, t1, t2, t3, t4, t5⟩, []) := by rw [underL, if_pos E4.out]
    rw [hu]
    exact ⟨rfl, _, res_tree2 hfin 6 7 _ rfl rfl rfl, _, _, rfl, TF.mk (⟨t0, t1, t2, t3, t4, t5⟩ : S26) HL.out.1 (foot_on HF3.out (below_step HB2.out hb) _) HL.out.2.1 (foot_on HF5.out (below_step HB2.out hb) _), WF.nil _ _, below_step HB2.out hb⟩
  | false =>
    have hu : underL ⟨x0, x1, x2, x3, x4, x5⟩ [] ⟨t0, t1, t2, t3, t4, t5⟩ = (⟨t0, t1, t2, t3, t4, t5 ++ [⟨x0, x1, x2, x3, x4, x5⟩]⟩, if x0 == 3 then [t5.length] else []) := by rw [underL, if_neg (by rw [e4]; decide)]; rfl
    rw [hu]
    have hw1 := HW1.out
    have hw2 := HW2.out
    have hw3 := HW3.out
    go_upto_region 3 with fail
    clear hw1 hw2 hw3 hu
    go_cut [35] from 13 to 34 (fun v35 wx => v35 = .bool false ∧ wx = w3)
    case first =>
      cases e40 : (x0 == 4) with
      | false =>
        go_wp2_with fail
        go_meet
        exact ⟨rfl, rfl⟩
      | true =>
        rw [e40, Bool.true_and] at e4
        by_cases h0 : t5.length = 0
        · have h1 : decide ((0 : Int) < (t5.length : Int)) = false := decide_eq_false (by omega)
          have h2 : decide (0 < t5.length) = false := decide_eq_false (by omega)
          clear e4 h0
          go_wp2_with fail
          go_meet
          exact ⟨rfl, rfl⟩
        · obtain ⟨ad, hA, hk⟩ := TAt_kid HG5.out (t5.length - 1) (by omega)
          subst hA
          obtain ⟨_, _, _, _, k0, _⟩ := hk
          have hlast : ((rd_T26 t5 ((t5.length - 1 : Nat) : Int)).f0 == 4) = false := by
            unfold isTxt at e4
            rw [List.getLast?_eq_getElem?, List.getElem?_eq_getElem (by omega)] at e4
            unfold rd_T26
            simp only [Int.toNat_natCast, List.getD, List.getElem?_eq_getElem (show t5.length - 1 < t5.length by omega), Option.getD_some]
            exact e4
          have hl1 : (0 : Int) < (t5.length : Int) := by omega
          have hl2 : ((t5.length : Int) - 1) = ((t5.length - 1 : Nat) : Int) := by omega
          clear e4
          go_wp2_with fail
          go_meet
          exact ⟨rfl, rfl⟩
    case rest =>
      obtain ⟨rfl, hwc⟩ := hcut
      rw [hwc]
      clear hwc
      go_upto_region 5 with fail
      go_cut [] from 37 to 43 (fun wx => Rel5 w w.heap.size w1.heap.size w2.heap.size w3.heap.size ⟨t0, t1, t2, t3, t4, t5⟩ ⟨x0, x1, x2, x3, x4, x5⟩ A3 c3 B3 d3 B5 d5 rs wx)
      case first =>
        have al := fun o => below_alloc (Below.refl w3.heap.size w3) o
        have al2 := fun o o' => below_alloc (al o) o'
        have a5' := fun o => cellW a5 (al o)
        have a5'' := fun o o' => cellW a5 (al2 o o')
        have b0' := fun o => cellW b0 (al o)
        have b1' := fun o => cellW b1 (al o)
        have b2' := fun o => cellW b2 (al o)
        have b3' := fun o => cellW b3 (al o)
        have b4' := fun o => cellW b4 (al o)
        have b5' := fun o => cellW b5 (al o)
        clear al al2
        first
        | go_region_law (first | (refine Kd.R_append_rows_step kRaw (Rr := kRaw.K w3) (w0 := w3) w3.heap.size rfl (.tmp 37) (.tmp 39) 24 26 (.agg #[.int .i64 0, .int .i64 0, .string ⟨#[]⟩, .slice none 0 0, .string ⟨#[]⟩, .slice none 0 0]) 96 rfl Tryd.underlying24 info26 rfl (by decide) (by decide) (Value.slice (some ⟨w3.heap.size, 0, none⟩) 0 0) [] rs A5 t5.length c5 (fun _ => True) (fun _ => False) rfl rfl (by first | exact Kd.R_drew (Kd.R_alloc (lit0R w3 _ (Nat.le_refl _)) _) | exact Kd.R_drew (lit0R w3 _ (Nat.le_refl _))) (by rw [HLR.out]; first | exact Kd.C_drew (Kd.C_alloc HRS.out _) | exact Kd.C_drew (Kd.C_alloc (Kd.C_alloc HRS.out _) _) | exact Kd.C_alloc HRS.out _ | exact Kd.C_alloc (Kd.C_alloc HRS.out _) _) (fun _ _ h => kRaw_KM h) (fun k hk => hk.elim) (fun _ _ => trivial) (by first | exact (below_alloc (Below.refl _ _) _).drew | exact (below_alloc (below_alloc (Below.refl _ _) _) _).drew | exact below_alloc (Below.refl _ _) _ | exact below_alloc (below_alloc (Below.refl _ _) _) _) (by first | exact (below_alloc (Below.refl w3.heap.size w3) _).drew.size | exact (below_alloc (below_alloc (Below.refl w3.heap.size w3) _) _).drew.size | exact (below_alloc (Below.refl w3.heap.size w3) _).size | exact (below_alloc (below_alloc (Below.refl w3.heap.size w3) _) _).size) (by simp; omega) ?_; intro v1 wA ho hb hg hown; rw [List.nil_append] at ho; obtain ⟨Av, cv, rfl⟩ := Kd.R_slice ho; have HO1 := hide ho; have HBA := hide hb; have lc0 := cellW b0 hb; have ld0 := fun o => cellW b0 (below_alloc hb o); have lc1 := cellW b1 hb; have ld1 := fun o => cellW b1 (below_alloc hb o); have lc2 := cellW b2 hb; have ld2 := fun o => cellW b2 (below_alloc hb o); have lc3 := cellW b3 hb; have ld3 := fun o => cellW b3 (below_alloc hb o); have lc4 := cellW b4 hb; have ld4 := fun o => cellW b4 (below_alloc hb o); have lc5 := cellW b5 hb; have ld5 := fun o => cellW b5 (below_alloc hb o); (first | (have HQ := hide (show wA.heap[w3.heap.size + 1]? = some (.cells #[.int .i64 x0, .int .i64 x1, .string x2, .slice B3 x3.length d3, .string x4, .slice B5 x5.length d5] 26 (0, 0)) from (hg.block (w3.heap.size + 1) (by simp) (by simp [Value.ownBlock])).trans (by have h9 := heap_alloc_new (w3.alloc (.cells #[] 26)) (.cells #[.int .i64 x0, .int .i64 x1, .string x2, .slice B3 x3.length d3, .string x4, .slice B5 x5.length d5] 26); rw [show (w3.alloc (.cells #[] 26)).heap.size = w3.heap.size + 1 from by simp] at h9; exact h9))) | skip); clear ho hb hg hown) | (refine Kd.R_append_rows_step kRaw (Rr := kRaw.K w3) (w0 := w3) w3.heap.size rfl (.tmp 37) (.tmp 39) 24 26 (.agg #[.int .i64 0, .int .i64 0, .string ⟨#[]⟩, .slice none 0 0, .string ⟨#[]⟩, .slice none 0 0]) 96 rfl Tryd.underlying24 info26 rfl (by decide) (by decide) (Value.slice (some ⟨w3.heap.size + 1, 0, none⟩) 0 0) [] rs A5 t5.length c5 (fun _ => True) (fun _ => False) rfl rfl (by have h := lit0R (w3.alloc (.cells #[.int .i64 x0, .int .i64 x1, .string x2, .slice B3 x3.length d3, .string x4, .slice B5 x5.length d5] 26)) w3.heap.size (by simp); rw [show (w3.alloc (.cells #[.int .i64 x0, .int .i64 x1, .string x2, .slice B3 x3.length d3, .string x4, .slice B5 x5.length d5] 26)).heap.size = w3.heap.size + 1 from by simp] at h; exact Kd.R_drew h) (by rw [HLR.out]; first | exact Kd.C_drew (Kd.C_alloc HRS.out _) | exact Kd.C_drew (Kd.C_alloc (Kd.C_alloc HRS.out _) _) | exact Kd.C_alloc HRS.out _ | exact Kd.C_alloc (Kd.C_alloc HRS.out _) _) (fun _ _ h => kRaw_KM h) (fun k hk => hk.elim) (fun _ _ => trivial) (by first | exact (below_alloc (Below.refl _ _) _).drew | exact (below_alloc (below_alloc (Below.refl _ _) _) _).drew | exact below_alloc (Below.refl _ _) _ | exact below_alloc (below_alloc (Below.refl _ _) _) _) (by first | exact (below_alloc (Below.refl w3.heap.size w3) _).drew.size | exact (below_alloc (below_alloc (Below.refl w3.heap.size w3) _) _).drew.size | exact (below_alloc (Below.refl w3.heap.size w3) _).size | exact (below_alloc (below_alloc (Below.refl w3.heap.size w3) _) _).size) (by simp; omega) ?_; intro v1 wA ho hb hg hown; rw [List.nil_append] at ho; obtain ⟨Av, cv, rfl⟩ := Kd.R_slice ho; have HO1 := hide ho; have HBA := hide hb; have lc0 := cellW b0 hb; have ld0 := fun o => cellW b0 (below_alloc hb o); have lc1 := cellW b1 hb; have ld1 := fun o => cellW b1 (below_alloc hb o); have lc2 := cellW b2 hb; have ld2 := fun o => cellW b2 (below_alloc hb o); have lc3 := cellW b3 hb; have ld3 := fun o => cellW b3 (below_alloc hb o); have lc4 := cellW b4 hb; have ld4 := fun o => cellW b4 (below_alloc hb o); have lc5 := cellW b5 hb; have ld5 := fun o => cellW b5 (below_alloc hb o); have HQ := hide (show wA.heap[w3.heap.size]? = some (.cells #[.int .i64 x0, .int .i64 x1, .string x2, .slice B3 x3.length d3, .string x4, .slice B5 x5.length d5] 26 (0, 0)) from (hg.block w3.heap.size (by simp <;> omega) (by simp [Value.ownBlock])).trans (((below_alloc (Below.refl _ (w3.alloc (.cells #[.int .i64 x0, .int .i64 x1, .string x2, .slice B3 x3.length d3, .string x4, .slice B5 x5.length d5] 26))) _).block _ (by simp <;> omega)).trans (heap_alloc_new w3 _))); clear ho hb hg hown) | (refine Kd.R_append_rows_step kRaw (Rr := kRaw.K w3) (w0 := w3) w3.heap.size rfl (.tmp 40) (.tmp 42) 24 26 (.agg #[.int .i64 0, .int .i64 0, .string ⟨#[]⟩, .slice none 0 0, .string ⟨#[]⟩, .slice none 0 0]) 96 rfl Tryd.underlying24 info26 rfl (by decide) (by decide) _ rs [(⟨⟨.int .i64 x0, rfl⟩, ⟨.int .i64 x1, rfl⟩, ⟨.string x2, rfl⟩, ⟨.slice B3 x3.length d3, rfl⟩, ⟨.string x4, rfl⟩, ⟨.slice B5 x5.length d5, rfl⟩⟩ : Raw)] _ 1 1 (fun _ => True) (fun _ => False) rfl rfl (by first | exact HO1.out | exact Kd.R_alloc HO1.out _ | exact Kd.R_drew (HO1.out) | exact Kd.R_drew (Kd.R_alloc HO1.out _)) (by first | exact raw_lit rfl rfl rfl rfl rfl rfl HQ.out | exact raw_lit rfl rfl rfl rfl rfl rfl (heap_alloc_new wA _)) (fun _ _ h => kRaw_KM h) (fun k hk => hk.elim) (fun _ _ => trivial) (by first | exact HBA.out | exact below_alloc HBA.out _ | exact HBA.out.drew | exact (below_alloc HBA.out _).drew) (by first | exact HBA.out.size | exact (below_alloc HBA.out _).size) (by rw [← HLR.out]; omega) ?_; intro v2 wB ho2 hb2 hg2 hown2; obtain ⟨Av2, cv2, rfl⟩ := Kd.R_slice ho2; have HO2 := hide ho2; have HBB := hide hb2; have e5 := cellW a5 hb2; have g5 := blk_frozen ((hb2.block _ (blk_lt HT.out)).trans HT.out) 5; clear ho2 hb2 hg2 hown2))
        | fail
        all_goals (
          go_wp2_with fail
          go_meet
          have hA := (HBB.out.block _ (blk_lt HT.out)).trans HT.out
          have hB := (HBB.out.block _ (blk_lt HX.out)).trans HX.out
          have hC := (HBB.out.block _ (blk_lt HZ.out)).trans HZ.out
          have n5 : w1.heap.size ≠ w.heap.size := by have := HZ1.out; omega
          have n6 : w2.heap.size ≠ w.heap.size := by have := HZ2.out; omega
          have hlen : (rs ++ [(⟨⟨.int .i64 x0, rfl⟩, ⟨.int .i64 x1, rfl⟩, ⟨.string x2, rfl⟩, ⟨.slice B3 x3.length d3, rfl⟩, ⟨.string x4, rfl⟩, ⟨.slice B5 x5.length d5, rfl⟩⟩ : Raw)]).length = t5.length + 1 := by simp [HLR.out]
          have hRb := Kd.R_bound HO2.out
          have hR := Kd.R_far (p := ⟨w.heap.size, 5, none⟩) hRb (fun k hk => by have h1 := hk.2.1; have h2 := HS.out; show k ≠ w.heap.size; omega) (.slice Av2 (t5.length + 1) cv2)
          rw [hlen] at hR
          have er : rs.length + 1 = t5.length + 1 := by rw [HLR.out]
          rw [er]
          exact ⟨Av2, cv2, blk_set hA 5 _, (Below.heap_setCell wB ⟨w.heap.size, 5, none⟩ _ _ n5).trans hB, (Below.heap_setCell wB ⟨w.heap.size, 5, none⟩ _ _ n6).trans hC, Kd.R_mono hR (fun k hk => hk.2.1), (HB.out.trans (Below.mono HBB.out HB.out.size)).setCell (Nat.le_refl _) _⟩)
      case rest =>
        clear a0 a1 a2 a3 a4 a5 b0 b1 b2 b3 b4 b5 f0 f1 f2 f3 f4 f5 y0 y1 y2 y3 y4 y5
        obtain ⟨Av, cv, hA, hB, hC, hR, hb⟩ := hcut
        dsimp only at hA hB hR
        have h26 : w.heap.size ≤ w2.heap.size := by have := HZ2.out; omega
        have hne : ∀ k, w3.heap.size ≤ k → k ≠ w2.heap.size := fun k hk => by have := HZ2.out; have := HS.out; omega
        have HR5 := hide hR
        have HB5 := hide hb
        have HOK := hide (show ∀ k, w3.heap.size ≤ k → w.heap.size ≤ k from fun k hk => by have := HS.out; omega)
        have a0 := cell_of_row _ _ 0 _ _ _ hA
        have c0_ := cell_of_row _ _ 0 _ _ _ hC
        have f0 := blk_frozen hC 0
        have a1 := cell_of_row _ _ 1 _ _ _ hA
        have c1_ := cell_of_row _ _ 1 _ _ _ hC
        have f1 := blk_frozen hC 1
        have a2 := cell_of_row _ _ 2 _ _ _ hA
        have c2_ := cell_of_row _ _ 2 _ _ _ hC
        have f2 := blk_frozen hC 2
        have a3 := cell_of_row _ _ 3 _ _ _ hA
        have c3_ := cell_of_row _ _ 3 _ _ _ hC
        have f3 := blk_frozen hC 3
        have a4 := cell_of_row _ _ 4 _ _ _ hA
        have c4_ := cell_of_row _ _ 4 _ _ _ hC
        have f4 := blk_frozen hC 4
        have a5 := cell_of_row _ _ 5 _ _ _ hA
        have c5_ := cell_of_row _ _ 5 _ _ _ hC
        have f5 := blk_frozen hC 5
        have b0 := cell_of_row _ _ 0 _ _ _ hB
        have HC := hide hC
        have HA := hide hA
        clear hA hB hR hb hC
        cases e3 : (x0 == 3) with
        | false =>
          go_wp2_with fail
          have hC := HC.out
          have hfin := (blk_set (blk_set (blk_set (blk_set (blk_set (blk_set hC 0 (.int .i64 t0)) 1 (.int .i64 t1)) 2 (.string t2)) 3 (.slice A3 t3.length c3)) 4 (.string t4)) 5 (.slice Av (t5.length + 1) cv))
          have hbF := ((((((HB5.out.setCell (p := ⟨w2.heap.size, 0, none⟩) h26 (.int .i64 t0)).setCell (p := ⟨w2.heap.size, 1, none⟩) h26 (.int .i64 t1)).setCell (p := ⟨w2.heap.size, 2, none⟩) h26 (.string t2)).setCell (p := ⟨w2.heap.size, 3, none⟩) h26 (.slice A3 t3.length c3)).setCell (p := ⟨w2.heap.size, 4, none⟩) h26 (.string t4)).setCell (p := ⟨w2.heap.size, 5, none⟩) h26 (.slice Av (t5.length + 1) cv))
          have hRX := (Kd.R_far (Kd.R_far (Kd.R_far (Kd.R_far (Kd.R_far (Kd.R_far HR5.out (p := ⟨w2.heap.size, 0, none⟩) hne (.int .i64 t0)) (p := ⟨w2.heap.size, 1, none⟩) hne (.int .i64 t1)) (p := ⟨w2.heap.size, 2, none⟩) hne (.string t2)) (p := ⟨w2.heap.size, 3, none⟩) hne (.slice A3 t3.length c3)) (p := ⟨w2.heap.size, 4, none⟩) hne (.string t4)) (p := ⟨w2.heap.size, 5, none⟩) hne (.slice Av (t5.length + 1) cv))
          exact ⟨rfl, _, res_tree2 hfin 6 7 _ rfl rfl rfl, _, .slice none 0 0, rfl, out_tree (⟨t0, t1, t2, t3, t4, t5 ++ [⟨x0, x1, x2, x3, x4, x5⟩]⟩ : S26) HL.out.1 HF3.out HKK.out hbF hRX HOK.out (by simp), by first | exact WF.nil _ _ | (rw [e3]; exact WF.nil _ _), hbF⟩
        | true =>
          go_upto_region 8 with fail
          have ha := below_alloc (Below.refl wc.heap.size wc) (.cells #[.int .i64 (t5.length : Int)] 3)
          have hwr : IntKind.i64.wrap (t5.length : Int) = t5.length := IntWalk.i64_in _ (by omega)
          have p0 := cellW a0 ha
          have p1 := cellW a1 ha
          have p2 := cellW a2 ha
          have p3 := cellW a3 ha
          have p4 := cellW a4 ha
          have p5 := cellW a5 ha
          have r0 := cellW c0_ ha
          have s0 := blk_frozen ((ha.block _ (blk_lt HC.out)).trans HC.out) 0
          have r1 := cellW c1_ ha
          have s1 := blk_frozen ((ha.block _ (blk_lt HC.out)).trans HC.out) 1
          have r2 := cellW c2_ ha
          have s2 := blk_frozen ((ha.block _ (blk_lt HC.out)).trans HC.out) 2
          have r3 := cellW c3_ ha
          have s3 := blk_frozen ((ha.block _ (blk_lt HC.out)).trans HC.out) 3
          have r4 := cellW c4_ ha
          have s4 := blk_frozen ((ha.block _ (blk_lt HC.out)).trans HC.out) 4
          have r5 := cellW c5_ ha
          have s5 := blk_frozen ((ha.block _ (blk_lt HC.out)).trans HC.out) 5
          have n36 : w.heap.size ≠ w2.heap.size := by have := HZ2.out; omega
          have v5 := cell_of_row _ _ 5 _ _ _ ((Below.heap_setCell _ ⟨w2.heap.size, 5, none⟩ (.slice Av (t5.length + 1) cv) _ n36).trans ((Below.heap_setCell _ ⟨w2.heap.size, 4, none⟩ (.string t4) _ n36).trans ((Below.heap_setCell _ ⟨w2.heap.size, 3, none⟩ (.slice A3 t3.length c3) _ n36).trans ((Below.heap_setCell _ ⟨w2.heap.size, 2, none⟩ (.string t2) _ n36).trans ((Below.heap_setCell _ ⟨w2.heap.size, 1, none⟩ (.int .i64 t1) _ n36).trans ((Below.heap_setCell _ ⟨w2.heap.size, 0, none⟩ (.int .i64 t0) _ n36).trans HA.out))))))
          go_region
          ·
            go_wp2_with fail
            have hC := HC.out
            have hS := (blk_set (blk_set (blk_set (blk_set (blk_set (blk_set hC 0 (.int .i64 t0)) 1 (.int .i64 t1)) 2 (.string t2)) 3 (.slice A3 t3.length c3)) 4 (.string t4)) 5 (.slice Av (t5.length + 1) cv))
            have bS := ((((((HB5.out.setCell (p := ⟨w2.heap.size, 0, none⟩) h26 (.int .i64 t0)).setCell (p := ⟨w2.heap.size, 1, none⟩) h26 (.int .i64 t1)).setCell (p := ⟨w2.heap.size, 2, none⟩) h26 (.string t2)).setCell (p := ⟨w2.heap.size, 3, none⟩) h26 (.slice A3 t3.length c3)).setCell (p := ⟨w2.heap.size, 4, none⟩) h26 (.string t4)).setCell (p := ⟨w2.heap.size, 5, none⟩) h26 (.slice Av (t5.length + 1) cv))
            have rS := (Kd.R_far (Kd.R_far (Kd.R_far (Kd.R_far (Kd.R_far (Kd.R_far HR5.out (p := ⟨w2.heap.size, 0, none⟩) hne (.int .i64 t0)) (p := ⟨w2.heap.size, 1, none⟩) hne (.int .i64 t1)) (p := ⟨w2.heap.size, 2, none⟩) hne (.string t2)) (p := ⟨w2.heap.size, 3, none⟩) hne (.slice A3 t3.length c3)) (p := ⟨w2.heap.size, 4, none⟩) hne (.string t4)) (p := ⟨w2.heap.size, 5, none⟩) hne (.slice Av (t5.length + 1) cv))
            have al := below_alloc (Below.refl _ ((((((wc.setCell ⟨w2.heap.size, 0, none⟩ (.int .i64 t0)).setCell ⟨w2.heap.size, 1, none⟩ (.int .i64 t1)).setCell ⟨w2.heap.size, 2, none⟩ (.string t2)).setCell ⟨w2.heap.size, 3, none⟩ (.slice A3 t3.length c3)).setCell ⟨w2.heap.size, 4, none⟩ (.string t4)).setCell ⟨w2.heap.size, 5, none⟩ (.slice Av (t5.length + 1) cv))) (.cells #[.int .i64 (t5.length : Int)] 3)
            have sz : ((((((wc.setCell ⟨w2.heap.size, 0, none⟩ (.int .i64 t0)).setCell ⟨w2.heap.size, 1, none⟩ (.int .i64 t1)).setCell ⟨w2.heap.size, 2, none⟩ (.string t2)).setCell ⟨w2.heap.size, 3, none⟩ (.slice A3 t3.length c3)).setCell ⟨w2.heap.size, 4, none⟩ (.string t4)).setCell ⟨w2.heap.size, 5, none⟩ (.slice Av (t5.length + 1) cv)).heap.size = wc.heap.size := by simp [World.setCell]
            have hfin := (al.block _ (blk_lt hS)).trans hS
            have hbF := below_step bS al
            have hRX := (Kd.R_alloc rS (.cells #[.int .i64 (t5.length : Int)] 3))
            have hlit := heap_alloc_new ((((((wc.setCell ⟨w2.heap.size, 0, none⟩ (.int .i64 t0)).setCell ⟨w2.heap.size, 1, none⟩ (.int .i64 t1)).setCell ⟨w2.heap.size, 2, none⟩ (.string t2)).setCell ⟨w2.heap.size, 3, none⟩ (.slice A3 t3.length c3)).setCell ⟨w2.heap.size, 4, none⟩ (.string t4)).setCell ⟨w2.heap.size, 5, none⟩ (.slice Av (t5.length + 1) cv)) (.cells #[.int .i64 (t5.length : Int)] 3)
            rw [sz] at hlit
            exact ⟨rfl, _, res_tree2 (blk_drew hfin) 6 7 _ rfl rfl rfl, _, .slice (some ⟨wc.heap.size, 0, none⟩) 1 1, rfl, (out_tree (⟨t0, t1, t2, t3, t4, t5 ++ [⟨x0, x1, x2, x3, x4, x5⟩]⟩ : S26) HL.out.1 HF3.out HKK.out hbF hRX HOK.out (by simp)).below (below_drew (Below.refl _ _)), by (try rw [e3]); exact (int_F hlit (.inr HB5.out.size)).below (below_drew (Below.refl _ _)), hbF.drew⟩
          ·
            go_wp2_with fail
            have hC := HC.out
            have hLw := ha.block _ (blk_lt hC)
            have hC2 := hLw.trans hC
            have hS := (blk_set (blk_set (blk_set (blk_set (blk_set (blk_set hC2 0 (.int .i64 t0)) 1 (.int .i64 t1)) 2 (.string t2)) 3 (.slice A3 t3.length c3)) 4 (.string t4)) 5 (.slice Av (t5.length + 1) cv))
            have bS := (((((((below_step HB5.out ha).setCell (p := ⟨w2.heap.size, 0, none⟩) h26 (.int .i64 t0)).setCell (p := ⟨w2.heap.size, 1, none⟩) h26 (.int .i64 t1)).setCell (p := ⟨w2.heap.size, 2, none⟩) h26 (.string t2)).setCell (p := ⟨w2.heap.size, 3, none⟩) h26 (.slice A3 t3.length c3)).setCell (p := ⟨w2.heap.size, 4, none⟩) h26 (.string t4)).setCell (p := ⟨w2.heap.size, 5, none⟩) h26 (.slice Av (t5.length + 1) cv))
            have rS := (Kd.R_far (Kd.R_far (Kd.R_far (Kd.R_far (Kd.R_far (Kd.R_far (Kd.R_alloc HR5.out (.cells #[.int .i64 (t5.length : Int)] 3)) (p := ⟨w2.heap.size, 0, none⟩) hne (.int .i64 t0)) (p := ⟨w2.heap.size, 1, none⟩) hne (.int .i64 t1)) (p := ⟨w2.heap.size, 2, none⟩) hne (.string t2)) (p := ⟨w2.heap.size, 3, none⟩) hne (.slice A3 t3.length c3)) (p := ⟨w2.heap.size, 4, none⟩) hne (.string t4)) (p := ⟨w2.heap.size, 5, none⟩) hne (.slice Av (t5.length + 1) cv))
            have hRX := rS
            have hlit := heap_alloc_new wc (.cells #[.int .i64 (t5.length : Int)] 3)
            have nL : wc.heap.size ≠ w2.heap.size := by have := blk_lt hC; omega
            have hlit2 := ((Below.heap_setCell _ ⟨w2.heap.size, 5, none⟩ (.slice Av (t5.length + 1) cv) _ nL).trans ((Below.heap_setCell _ ⟨w2.heap.size, 4, none⟩ (.string t4) _ nL).trans ((Below.heap_setCell _ ⟨w2.heap.size, 3, none⟩ (.slice A3 t3.length c3) _ nL).trans ((Below.heap_setCell _ ⟨w2.heap.size, 2, none⟩ (.string t2) _ nL).trans ((Below.heap_setCell _ ⟨w2.heap.size, 1, none⟩ (.int .i64 t1) _ nL).trans ((Below.heap_setCell _ ⟨w2.heap.size, 0, none⟩ (.int .i64 t0) _ nL).trans hlit))))))
            exact ⟨rfl, _, res_tree2 (blk_drew hS) 6 7 _ rfl rfl rfl, _, .slice (some ⟨wc.heap.size, 0, none⟩) 1 1, rfl, (out_tree (⟨t0, t1, t2, t3, t4, t5 ++ [⟨x0, x1, x2, x3, x4, x5⟩]⟩ : S26) HL.out.1 HF3.out HKK.out bS hRX HOK.out (by simp)).below (below_drew (Below.refl _ _)), by (try rw [e3]); exact (int_F hlit2 (.inr HB5.out.size)).below (below_drew (Below.refl _ _)), bS.drew⟩
end Go.Proofs.YteglfgmgpbablaaDoor.Cmp
