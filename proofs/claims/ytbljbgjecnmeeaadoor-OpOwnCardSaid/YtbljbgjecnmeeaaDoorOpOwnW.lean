/- The walk of arbourlaw16.OpOwn. -/
import Derived.Test.YtbljbgjecnmeeaaDoorOpOwnP
import Derived.Test.YtbljbgjecnmeeaaDoorOpMade
import Derived.Deep.RegionHeld3
namespace Go.Proofs.YtbljbgjecnmeeaaDoor.OpP
open Go.RowKit Go.Proofs.YtbljbgjecnmeeaaDoor.POpTells Go.Proofs.YtbljbgjecnmeeaaDoorW.PrintWords Go.Proofs.YtbljbgjecnmeeaaDoorW.PrintLast
set_option linter.unusedVariables false
set_option linter.unusedSimpArgs false
/-- Four operations in memory, and what lay there. -/
structure OwnSt (W0 w5 : World) (gY gX gN gZ : Nat) (cY cX cN cZ : Array Value) (W : World) : Prop where
  y : W.heap[gY]? = some (.cells cY 24 (0, 0))
  x : W.heap[gX]? = some (.cells cX 24 (0, 0))
  n : W.heap[gN]? = some (.cells cN 24 (0, 0))
  z : W.heap[gZ]? = some (.cells cZ 24 (0, 0))
  bel : Below w5.heap.size w5 W
  all : Below W0.heap.size W0 W
theorem OwnSt.step {W0 w5 : World} {gY gX gN gZ : Nat} {cY cX cN cZ : Array Value} {W W' : World} (h : OwnSt W0 w5 gY gX gN gZ cY cX cN cZ W) (hb : Below W.heap.size W W') : OwnSt W0 w5 gY gX gN gZ cY cX cN cZ W' :=
  ⟨(hb.block _ (blk_lt h.y)).trans h.y, (hb.block _ (blk_lt h.x)).trans h.x, (hb.block _ (blk_lt h.n)).trans h.n, (hb.block _ (blk_lt h.z)).trans h.z, below_step h.bel hb, below_step h.all hb⟩
theorem keep9 {w5 W : World} {g : Nat} {a0 a1 a2 a3 a4 a5 a6 a7 a8 : Value} (h : w5.heap[g]? = some (.cells #[a0, a1, a2, a3, a4, a5, a6, a7, a8] 24 (0, 0))) (hb : Below w5.heap.size w5 W) : W.cell? ⟨g, 0, none⟩ = some a0 ∧ W.cell? ⟨g, 1, none⟩ = some a1 ∧ W.cell? ⟨g, 2, none⟩ = some a2 ∧ W.cell? ⟨g, 3, none⟩ = some a3 ∧ W.cell? ⟨g, 4, none⟩ = some a4 ∧ W.cell? ⟨g, 5, none⟩ = some a5 ∧ W.cell? ⟨g, 6, none⟩ = some a6 ∧ W.cell? ⟨g, 7, none⟩ = some a7 ∧ W.cell? ⟨g, 8, none⟩ = some a8 := by
  have h' := (hb.block _ (blk_lt h)).trans h
  exact ⟨cell_of_row _ _ 0 _ _ _ h', cell_of_row _ _ 1 _ _ _ h', cell_of_row _ _ 2 _ _ _ h', cell_of_row _ _ 3 _ _ _ h', cell_of_row _ _ 4 _ _ _ h', cell_of_row _ _ 5 _ _ _ h', cell_of_row _ _ 6 _ _ _ h', cell_of_row _ _ 7 _ _ _ h', cell_of_row _ _ 8 _ _ _ h'⟩
/-- Behind the three copies. -/
def Cut5 (W0 w5 : World) (gY : Nat) (cY : Array Value) (p6 p7 p8 : Value) (wx : World) : Prop := ∃ gX gN gZ, p6 = .pointer (some ⟨gX, 0, none⟩) ∧ p7 = .pointer (some ⟨gN, 0, none⟩) ∧ p8 = .pointer (some ⟨gZ, 0, none⟩) ∧ gX ≠ gN ∧ gX ≠ gZ ∧ gN ≠ gZ ∧ w5.heap.size ≤ gX ∧ w5.heap.size ≤ gN ∧ w5.heap.size ≤ gZ ∧ OwnSt W0 w5 gY gX gN gZ cY cY cY cY wx
theorem OwnSt.setFar {W0 w5 : World} {gY gX gN gZ : Nat} {cY cX cN cZ : Array Value} {W : World} (h : OwnSt W0 w5 gY gX gN gZ cY cX cN cZ W) {p : Addr} (h1 : gY ≠ p.block) (h2 : gX ≠ p.block) (h3 : gN ≠ p.block) (h4 : gZ ≠ p.block) (hb : w5.heap.size ≤ p.block) (h0 : W0.heap.size ≤ p.block) (v : Value) : OwnSt W0 w5 gY gX gN gZ cY cX cN cZ (W.setCell p v) :=
  ⟨(Below.heap_setCell W p v gY h1).trans h.y, (Below.heap_setCell W p v gX h2).trans h.x, (Below.heap_setCell W p v gN h3).trans h.n, (Below.heap_setCell W p v gZ h4).trans h.z, h.bel.setCell hb v, h.all.setCell h0 v⟩
theorem own_stores {W0 w3 : World} {gY gX gN gZ : Nat} {a0 a1 a2 a3 a4 a5 a6 a7 a8 : Value} {W : World} (h : OwnSt W0 w3 gY gX gN gZ #[a0, a1, a2, a3, a4, a5, a6, a7, a8] #[a0, a1, a2, a3, a4, a5, a6, a7, a8] #[a0, a1, a2, a3, a4, a5, a6, a7, a8] #[a0, a1, a2, a3, a4, a5, a6, a7, a8] W) (hyx : gY ≠ gX) (hyn : gY ≠ gN) (hyz : gY ≠ gZ) (hxn : gX ≠ gN) (hxz : gX ≠ gZ) (hnz : gN ≠ gZ) (lx : w3.heap.size ≤ gX) (ln : w3.heap.size ≤ gN) (lz : w3.heap.size ≤ gZ) (h03 : W0.heap.size ≤ w3.heap.size) :
    OwnSt W0 w3 gY gX gN gZ #[a0, a1, a2, a3, a4, a5, a6, a7, a8] #[a0, a1, a2, a3, a4, .int .i64 3, a6, a7, a8] #[a0, .int .i64 (-1), a2, a3, a4, a5, a6, a7, a8] #[.int .i64 12, a1, a2, a3, a4, a5, a6, a7, a8] (((W.setCell ⟨gX, 5, none⟩ (.int .i64 3)).setCell ⟨gN, 1, none⟩ (.int .i64 (-1))).setCell ⟨gZ, 0, none⟩ (.int .i64 12)) := by
  have x1 : (W.setCell ⟨gX, 5, none⟩ (.int .i64 3)).heap[gX]? = some (.cells #[a0, a1, a2, a3, a4, .int .i64 3, a6, a7, a8] 24 (0, 0)) := blk_set h.x 5 _
  have n1 := (Below.heap_setCell W ⟨gX, 5, none⟩ (.int .i64 3) gN (Ne.symm hxn)).trans h.n
  have z1 := (Below.heap_setCell W ⟨gX, 5, none⟩ (.int .i64 3) gZ (Ne.symm hxz)).trans h.z
  have y1 := (Below.heap_setCell W ⟨gX, 5, none⟩ (.int .i64 3) gY hyx).trans h.y
  obtain ⟨W1, hW1⟩ : ∃ W1, W.setCell ⟨gX, 5, none⟩ (.int .i64 3) = W1 := ⟨_, rfl⟩
  have b1 := h.bel.setCell (p := ⟨gX, 5, none⟩) lx (.int .i64 3)
  have c1 := h.all.setCell (p := ⟨gX, 5, none⟩) (Nat.le_trans h03 lx) (.int .i64 3)
  rw [hW1] at x1 n1 z1 y1 b1 c1 ⊢
  have x2 := (Below.heap_setCell W1 ⟨gN, 1, none⟩ (.int .i64 (-1)) gX hxn).trans x1
  have n2 : (W1.setCell ⟨gN, 1, none⟩ (.int .i64 (-1))).heap[gN]? = some (.cells #[a0, .int .i64 (-1), a2, a3, a4, a5, a6, a7, a8] 24 (0, 0)) := blk_set n1 1 _
  have z2 := (Below.heap_setCell W1 ⟨gN, 1, none⟩ (.int .i64 (-1)) gZ (Ne.symm hnz)).trans z1
  have y2 := (Below.heap_setCell W1 ⟨gN, 1, none⟩ (.int .i64 (-1)) gY hyn).trans y1
  have b2 := b1.setCell (p := ⟨gN, 1, none⟩) ln (.int .i64 (-1))
  have c2 := c1.setCell (p := ⟨gN, 1, none⟩) (Nat.le_trans h03 ln) (.int .i64 (-1))
  obtain ⟨W2, hW2⟩ : ∃ W2, W1.setCell ⟨gN, 1, none⟩ (.int .i64 (-1)) = W2 := ⟨_, rfl⟩
  rw [hW2] at x2 n2 z2 y2 b2 c2 ⊢
  have z3 : (W2.setCell ⟨gZ, 0, none⟩ (.int .i64 12)).heap[gZ]? = some (.cells #[.int .i64 12, a1, a2, a3, a4, a5, a6, a7, a8] 24 (0, 0)) := blk_set z2 0 _
  exact ⟨(Below.heap_setCell W2 ⟨gZ, 0, none⟩ (.int .i64 12) gY hyz).trans y2, (Below.heap_setCell W2 ⟨gZ, 0, none⟩ (.int .i64 12) gX hxz).trans x2, (Below.heap_setCell W2 ⟨gZ, 0, none⟩ (.int .i64 12) gN hnz).trans n2, z3, b2.setCell (p := ⟨gZ, 0, none⟩) lz (.int .i64 12), c2.setCell (p := ⟨gZ, 0, none⟩) (Nat.le_trans h03 lz) (.int .i64 12)⟩
theorem toList_inj {a b : ByteArray} (h : a.toList = b.toList) : a = b := by
  rw [ByteArray.toList_eq, ByteArray.toList_eq] at h
  exact ByteArray.ext (Array.toList_inj.1 h)
theorem lit1_C {w : World} {g : Nat} {x : S32} (h : w.heap[g]? = some (.cells #[.string x.f0, .string x.f1] 32 (0, 0))) : k32.C w (some ⟨g, 0, none⟩) 1 [x] := by
  refine ⟨rfl, by decide, fun _ => ⟨_, rfl, fun i y hy => ?_⟩⟩
  match i, hy with
  | 0, hy =>
    have e : x = y := by simpa using hy
    subst e
    refine ⟨_, rfl, k32_mk _ x, fun j u hu => ?_⟩
    match j, hu with
    | 0, hu =>
      have := cell_of_row w g 0 _ _ _ h
      rw [add_at]
      simpa using this.trans hu
    | 1, hu =>
      have := cell_of_row w g 1 _ _ _ h
      rw [add_at]
      simpa using this.trans hu
theorem two9 {w13 W : World} {gU gY : Nat} {u0 u1 u2 u3 u4 u5 u6 u7 u8 a0 a1 a2 a3 a4 a5 a6 a7 a8 : Value} (hu : w13.heap[gU]? = some (.cells #[u0, u1, u2, u3, u4, u5, u6, u7, u8] 24 (0, 0))) (hy : w13.heap[gY]? = some (.cells #[a0, a1, a2, a3, a4, a5, a6, a7, a8] 24 (0, 0))) (hb : Below w13.heap.size w13 W) : W.cell? ⟨gU, 0, none⟩ = some u0 ∧ W.cell? ⟨gU, 1, none⟩ = some u1 ∧ W.cell? ⟨gU, 2, none⟩ = some u2 ∧ W.cell? ⟨gU, 3, none⟩ = some u3 ∧ W.cell? ⟨gU, 4, none⟩ = some u4 ∧ W.cell? ⟨gU, 5, none⟩ = some u5 ∧ W.cell? ⟨gU, 6, none⟩ = some u6 ∧ W.cell? ⟨gU, 7, none⟩ = some u7 ∧ W.cell? ⟨gU, 8, none⟩ = some u8 ∧ W.cell? ⟨gY, 0, none⟩ = some a0 ∧ W.cell? ⟨gY, 1, none⟩ = some a1 ∧ W.cell? ⟨gY, 2, none⟩ = some a2 ∧ W.cell? ⟨gY, 3, none⟩ = some a3 ∧ W.cell? ⟨gY, 4, none⟩ = some a4 ∧ W.cell? ⟨gY, 5, none⟩ = some a5 ∧ W.cell? ⟨gY, 6, none⟩ = some a6 ∧ W.cell? ⟨gY, 7, none⟩ = some a7 ∧ W.cell? ⟨gY, 8, none⟩ = some a8 ∧ Below w13.heap.size w13 W := by
  have h' := (hb.block _ (blk_lt hu)).trans hu
  have k' := (hb.block _ (blk_lt hy)).trans hy
  exact ⟨cell_of_row _ _ 0 _ _ _ h', cell_of_row _ _ 1 _ _ _ h', cell_of_row _ _ 2 _ _ _ h', cell_of_row _ _ 3 _ _ _ h', cell_of_row _ _ 4 _ _ _ h', cell_of_row _ _ 5 _ _ _ h', cell_of_row _ _ 6 _ _ _ h', cell_of_row _ _ 7 _ _ _ h', cell_of_row _ _ 8 _ _ _ h', cell_of_row _ _ 0 _ _ _ k', cell_of_row _ _ 1 _ _ _ k', cell_of_row _ _ 2 _ _ _ k', cell_of_row _ _ 3 _ _ _ k', cell_of_row _ _ 4 _ _ _ k', cell_of_row _ _ 5 _ _ _ k', cell_of_row _ _ 6 _ _ _ k', cell_of_row _ _ 7 _ _ _ k', cell_of_row _ _ 8 _ _ _ k', hb⟩
theorem alloc3 {W0 w3 w5 : World} {g : Nat} {cY : Array Value} (hy : w5.heap[g]? = some (.cells cY 24 (0, 0))) (h3 : Below w3.heap.size w3 w5) (h0 : Below W0.heap.size W0 w5) {W : World} (hW : W = (((w5.alloc (.cells cY 24)).alloc (.cells cY 24)).alloc (.cells cY 24)).drew) {i j k : Nat} (hi : i = w5.heap.size ∨ i = w5.heap.size + 1 ∨ i = w5.heap.size + 1 + 1) (hj : j = w5.heap.size ∨ j = w5.heap.size + 1 ∨ j = w5.heap.size + 1 + 1) (hk : k = w5.heap.size ∨ k = w5.heap.size + 1 ∨ k = w5.heap.size + 1 + 1) (hij : i ≠ j) (hik : i ≠ k) (hjk : j ≠ k) : Cut5 W0 w3 g cY (.pointer (some ⟨i, 0, none⟩)) (.pointer (some ⟨j, 0, none⟩)) (.pointer (some ⟨k, 0, none⟩)) W := by
  subst hW
  have b1 := below_alloc (Below.refl w5.heap.size w5) (.cells cY 24)
  have b2 := below_alloc (Below.refl (w5.alloc (.cells cY 24)).heap.size (w5.alloc (.cells cY 24))) (.cells cY 24)
  have b3 := below_alloc (Below.refl ((w5.alloc (.cells cY 24)).alloc (.cells cY 24)).heap.size ((w5.alloc (.cells cY 24)).alloc (.cells cY 24))) (.cells cY 24)
  have s1 : (w5.alloc (.cells cY 24)).heap.size = w5.heap.size + 1 := by simp
  have s2 : ((w5.alloc (.cells cY 24)).alloc (.cells cY 24)).heap.size = w5.heap.size + 1 + 1 := by simp
  have n0 := heap_alloc_new w5 (.cells cY 24)
  have n1 := heap_alloc_new (w5.alloc (.cells cY 24)) (.cells cY 24)
  have n2 := heap_alloc_new ((w5.alloc (.cells cY 24)).alloc (.cells cY 24)) (.cells cY 24)
  rw [s1] at n1
  rw [s2] at n2
  have m1 := (b3.block _ (by rw [s2]; omega)).trans n1
  have m0 := (b3.block _ (by rw [s2]; omega)).trans ((b2.block _ (by rw [s1]; omega)).trans n0)
  have b13 := below_step b1 (below_step b2 b3)
  have hle := h3.size
  have key : ∀ x, x = w5.heap.size ∨ x = w5.heap.size + 1 ∨ x = w5.heap.size + 1 + 1 → (((w5.alloc (.cells cY 24)).alloc (.cells cY 24)).alloc (.cells cY 24)).drew.heap[x]? = some (.cells cY 24 (0, 0)) := by
    rintro x (rfl | rfl | rfl)
    · exact m0
    · exact m1
    · exact n2
  refine ⟨i, j, k, rfl, rfl, rfl, hij, hik, hjk, by omega, by omega, by omega, ⟨?_, key i hi, key j hj, key k hk, (below_step h3 b13).drew, (below_step h0 b13).drew⟩⟩
  exact (b13.block _ (blk_lt hy)).trans hy

set_option maxHeartbeats 20000000 in
set_option maxRecDepth 100000 in
theorem opOwn (o : S24) (tm : Bool) (kd : Int) (A : Option Addr) (c : Nat) (s : ByteArray) (w : World) (hC : k32.C w A o.f7.length o.f7) (hl : o.f7.length ≤ c) (ht : TabOk w) :
    Calls Tryd.prog 3 #[.agg #[.int .i64 o.f0, .int .i64 o.f1, .int .i64 o.f2, .int .i64 o.f3, .int .i64 o.f4, .int .i64 o.f5, .string o.f6, .slice A o.f7.length c, .string o.f8, .bool tm, .int .i64 kd], .string s] w fun e w' => e = .returned (.bool true) ∧ Below w.heap.size w w' := by
  have HT := hide ht
  have HMD := hide (fun w1 (hb : Below w.heap.size w w1) => made o true kd A c w1 (Kd.C_below hC hb) hl)
  have hm : madeL o true kd = madeN o (withL kd 1000 % 11) := by unfold madeL; rw [if_pos rfl]
  have htm := tame_made o (withL kd 1000 % 11)
  rw [← hm] at htm
  obtain ⟨⟨y0, y1, y2, y3, y4, y5, y6, y7, y8⟩, hy⟩ : ∃ y, madeL o true kd = y := ⟨_, rfl⟩
  rw [hy] at HMD htm
  unfold opV at HMD
  dsimp only at HMD
  have HTM := hide htm
  obtain ⟨o0, o1, o2, o3, o4, o5, o6, o7, o8⟩ := o
  dsimp only at HMD ⊢
  clear hm hy htm hC hl ht
  have b1 := below_alloc (Below.refl w.heap.size w) (.cells #[.int .i64 o0, .int .i64 o1, .int .i64 o2, .int .i64 o3, .int .i64 o4, .int .i64 o5, .string o6, .slice A o7.length c, .string o8, .bool true, .int .i64 kd] 26)
  obtain ⟨w1, hw1⟩ : ∃ w1, w.alloc (.cells #[.int .i64 o0, .int .i64 o1, .int .i64 o2, .int .i64 o3, .int .i64 o4, .int .i64 o5, .string o6, .slice A o7.length c, .string o8, .bool true, .int .i64 kd] 26) = w1 := ⟨_, rfl⟩
  rw [hw1] at b1
  have HW1 := hide hw1
  have HB1 := hide b1
  clear hw1 b1
  go_enter Tryd.func3, Tryd.ntmps3
  go_wp2_with fail
  rw [HW1.out]
  refine (HMD.out w1 HB1.out).mono ?_
  rintro e w2 ⟨v, rfl, hR, hb2⟩
  obtain ⟨A7, c7, rfl, hl7, hC7⟩ := Kd.R_reads hR
  dsimp only
  have bb2 := below_step HB1.out hb2
  have hn := heap_alloc_new w2 (.cells #[.int .i64 y0, .int .i64 y1, .int .i64 y2, .int .i64 y3, .int .i64 y4, .int .i64 y5, .string y6, .slice A7 y7.length c7, .string y8] 24)
  have b3 := below_alloc (Below.refl w2.heap.size w2) (.cells #[.int .i64 y0, .int .i64 y1, .int .i64 y2, .int .i64 y3, .int .i64 y4, .int .i64 y5, .string y6, .slice A7 y7.length c7, .string y8] 24)
  obtain ⟨w3, hw3⟩ : ∃ w3, w2.alloc (.cells #[.int .i64 y0, .int .i64 y1, .int .i64 y2, .int .i64 y3, .int .i64 y4, .int .i64 y5, .string y6, .slice A7 y7.length c7, .string y8] 24) = w3 := ⟨_, rfl⟩
  rw [hw3] at hn b3
  have bb3 := below_step bb2 b3
  have HC7 := hide (Kd.C_below hC7 b3)
  have HL7 := hide hl7
  obtain ⟨g, hg⟩ : ∃ g, w2.heap.size = g := ⟨_, rfl⟩
  rw [hg] at hn
  have HN := hide hn
  have HB3 := hide bb3
  have HW3 := hide hw3
  have HG := hide hg
  clear hR hb2 hl7 hC7 bb2 hn b3 hw3 bb3 hg HMD HB1 HW1
  have HRR := hide (fun (x : S24) (hx : x.f7 = y7) (W : World) (hb : Below w3.heap.size w3 W) => right x A7 c7 W (by rw [hx]; exact Kd.C_below HC7.out hb) (by rw [hx]; exact HL7.out))
  have HSS := hide (fun (x z : S24) (hx : x.f7 = y7) (hz : z.f7 = y7) (W : World) (hb : Below w3.heap.size w3 W) => op_Same.calls (x.f7.length + 1) x.f0 x.f1 x.f2 x.f3 x.f4 x.f5 x.f6 A7 c7 x.f7 x.f8 z.f0 z.f1 z.f2 z.f3 z.f4 z.f5 z.f6 A7 c7 z.f7 z.f8 (sameB x z) W (by rw [hx]; exact Kd.C_below HC7.out hb) (by rw [hx]; exact HL7.out) (by rw [hz]; exact Kd.C_below HC7.out hb) (by rw [hz]; exact HL7.out) (same_some x z (by rw [hx]; have := HC7.out.2.1; unfold maxLen at this; omega)))
  have HR0 := hide (fun W hb => HRR.out ⟨y0, y1, y2, y3, y4, y5, y6, y7, y8⟩ rfl W hb)
  rw [HTM.out.right] at HR0
  have HRX := hide (fun W hb => HRR.out { (⟨y0, y1, y2, y3, y4, y5, y6, y7, y8⟩ : S24) with f5 := 3 } rfl W hb)
  rw [(own_x HTM.out).1] at HRX
  have HRN := hide (fun W hb => HRR.out { (⟨y0, y1, y2, y3, y4, y5, y6, y7, y8⟩ : S24) with f1 := -1 } rfl W hb)
  rw [own_y] at HRN
  have HRZ := hide (fun W hb => HRR.out { (⟨y0, y1, y2, y3, y4, y5, y6, y7, y8⟩ : S24) with f0 := 12 } rfl W hb)
  rw [(own_z HTM.out).1] at HRZ
  have HS0 := hide (fun W hb => HSS.out ⟨y0, y1, y2, y3, y4, y5, y6, y7, y8⟩ ⟨y0, y1, y2, y3, y4, y5, y6, y7, y8⟩ rfl rfl W hb)
  rw [sameB_refl] at HS0
  have HSX := hide (fun W hb => HSS.out ⟨y0, y1, y2, y3, y4, y5, y6, y7, y8⟩ { (⟨y0, y1, y2, y3, y4, y5, y6, y7, y8⟩ : S24) with f5 := 3 } rfl rfl W hb)
  rw [(own_x HTM.out).2] at HSX
  have HSZ := hide (fun W hb => HSS.out ⟨y0, y1, y2, y3, y4, y5, y6, y7, y8⟩ { (⟨y0, y1, y2, y3, y4, y5, y6, y7, y8⟩ : S24) with f0 := 12 } rfl rfl W hb)
  rw [(own_z HTM.out).2] at HSZ
  dsimp only at HR0 HRX HRN HRZ HS0 HSX HSZ
  clear HRR HSS
  go_upto_region 3 with fail
  rw [HW3.out, HG.out]
  have cY0 : w3.cell? ⟨g, 0, none⟩ = some (.int .i64 y0) := cell_of_row _ _ 0 _ _ _ HN.out
  have cY1 : w3.cell? ⟨g, 1, none⟩ = some (.int .i64 y1) := cell_of_row _ _ 1 _ _ _ HN.out
  have cY2 : w3.cell? ⟨g, 2, none⟩ = some (.int .i64 y2) := cell_of_row _ _ 2 _ _ _ HN.out
  have cY3 : w3.cell? ⟨g, 3, none⟩ = some (.int .i64 y3) := cell_of_row _ _ 3 _ _ _ HN.out
  have cY4 : w3.cell? ⟨g, 4, none⟩ = some (.int .i64 y4) := cell_of_row _ _ 4 _ _ _ HN.out
  have cY5 : w3.cell? ⟨g, 5, none⟩ = some (.int .i64 y5) := cell_of_row _ _ 5 _ _ _ HN.out
  have cY6 : w3.cell? ⟨g, 6, none⟩ = some (.string y6) := cell_of_row _ _ 6 _ _ _ HN.out
  have cY7 : w3.cell? ⟨g, 7, none⟩ = some (.slice A7 y7.length c7) := cell_of_row _ _ 7 _ _ _ HN.out
  have cY8 : w3.cell? ⟨g, 8, none⟩ = some (.string y8) := cell_of_row _ _ 8 _ _ _ HN.out
  go_wp2_with fail
  refine (HR0.out w3 (Below.refl _ _)).mono ?_
  rintro e w4 ⟨rfl, hb4⟩
  dsimp only
  have hY4 := (hb4.block _ (blk_lt HN.out)).trans HN.out
  have HB4 := hide hb4
  clear hb4 cY0 cY1 cY2 cY3 cY4 cY5 cY6 cY7 cY8
  have cY0 : w4.cell? ⟨g, 0, none⟩ = some (.int .i64 y0) := cell_of_row _ _ 0 _ _ _ hY4
  have cY1 : w4.cell? ⟨g, 1, none⟩ = some (.int .i64 y1) := cell_of_row _ _ 1 _ _ _ hY4
  have cY2 : w4.cell? ⟨g, 2, none⟩ = some (.int .i64 y2) := cell_of_row _ _ 2 _ _ _ hY4
  have cY3 : w4.cell? ⟨g, 3, none⟩ = some (.int .i64 y3) := cell_of_row _ _ 3 _ _ _ hY4
  have cY4 : w4.cell? ⟨g, 4, none⟩ = some (.int .i64 y4) := cell_of_row _ _ 4 _ _ _ hY4
  have cY5 : w4.cell? ⟨g, 5, none⟩ = some (.int .i64 y5) := cell_of_row _ _ 5 _ _ _ hY4
  have cY6 : w4.cell? ⟨g, 6, none⟩ = some (.string y6) := cell_of_row _ _ 6 _ _ _ hY4
  have cY7 : w4.cell? ⟨g, 7, none⟩ = some (.slice A7 y7.length c7) := cell_of_row _ _ 7 _ _ _ hY4
  have cY8 : w4.cell? ⟨g, 8, none⟩ = some (.string y8) := cell_of_row _ _ 8 _ _ _ hY4
  go_wp2_with fail
  refine (HS0.out w4 HB4.out).mono ?_
  rintro e w5 ⟨rfl, hb5⟩
  dsimp only
  have hY5 := (hb5.block _ (blk_lt hY4)).trans hY4
  have HB5 := hide (below_step HB4.out hb5)
  have HA5 := hide (below_step HB3.out (below_step HB4.out hb5))
  have HY5 := hide hY5
  clear hb5 hY4 HB4 cY0 cY1 cY2 cY3 cY4 cY5 cY6 cY7 cY8
  have cY0 : w5.cell? ⟨g, 0, none⟩ = some (.int .i64 y0) := cell_of_row _ _ 0 _ _ _ hY5
  have cY1 : w5.cell? ⟨g, 1, none⟩ = some (.int .i64 y1) := cell_of_row _ _ 1 _ _ _ hY5
  have cY2 : w5.cell? ⟨g, 2, none⟩ = some (.int .i64 y2) := cell_of_row _ _ 2 _ _ _ hY5
  have cY3 : w5.cell? ⟨g, 3, none⟩ = some (.int .i64 y3) := cell_of_row _ _ 3 _ _ _ hY5
  have cY4 : w5.cell? ⟨g, 4, none⟩ = some (.int .i64 y4) := cell_of_row _ _ 4 _ _ _ hY5
  have cY5 : w5.cell? ⟨g, 5, none⟩ = some (.int .i64 y5) := cell_of_row _ _ 5 _ _ _ hY5
  have cY6 : w5.cell? ⟨g, 6, none⟩ = some (.string y6) := cell_of_row _ _ 6 _ _ _ hY5
  have cY7 : w5.cell? ⟨g, 7, none⟩ = some (.slice A7 y7.length c7) := cell_of_row _ _ 7 _ _ _ hY5
  have cY8 : w5.cell? ⟨g, 8, none⟩ = some (.string y8) := cell_of_row _ _ 8 _ _ _ hY5
  clear hY5
  go_upto_region 5 with fail
  have hg5 : g < w5.heap.size := blk_lt HY5.out
  go_cut [6, 7, 8] from 23 to 25 (fun p6 p7 p8 wx => Cut5 w w3 g #[.int .i64 y0, .int .i64 y1, .int .i64 y2, .int .i64 y3, .int .i64 y4, .int .i64 y5, .string y6, .slice A7 y7.length c7, .string y8] p6 p7 p8 wx)
  case first =>
    go_region_held3 (fun W => W.cell? ⟨g, 0, none⟩ = some (.int .i64 y0) ∧ W.cell? ⟨g, 1, none⟩ = some (.int .i64 y1) ∧ W.cell? ⟨g, 2, none⟩ = some (.int .i64 y2) ∧ W.cell? ⟨g, 3, none⟩ = some (.int .i64 y3) ∧ W.cell? ⟨g, 4, none⟩ = some (.int .i64 y4) ∧ W.cell? ⟨g, 5, none⟩ = some (.int .i64 y5) ∧ W.cell? ⟨g, 6, none⟩ = some (.string y6) ∧ W.cell? ⟨g, 7, none⟩ = some (.slice A7 y7.length c7) ∧ W.cell? ⟨g, 8, none⟩ = some (.string y8))
      (first
        | exact keep9 HY5.out (by repeat (first | exact Below.refl _ _ | apply Below.drew | apply pw_below_drewN | refine below_alloc ?_ _ | refine Below.setCell ?_ (by simp) _)))
      ((first
        | fail))
    all_goals (
      go_wp2_with fail
      go_meet
      exact alloc3 HY5.out HB5.out HA5.out rfl (by first | exact .inl rfl | exact .inr (.inl rfl) | exact .inr (.inr rfl)) (by first | exact .inl rfl | exact .inr (.inl rfl) | exact .inr (.inr rfl)) (by first | exact .inl rfl | exact .inr (.inl rfl) | exact .inr (.inr rfl)) (by omega) (by omega) (by omega))
  case rest =>
    obtain ⟨gX, gN, gZ, rfl, rfl, rfl, hxn, hxz, hnz, lx, ln, lz, hst⟩ := hcut
    have hgw : g < w3.heap.size := blk_lt HN.out
    have cX5 := cell_of_row _ _ 5 _ _ _ hst.x
    have fX5 := blk_frozen hst.x 5
    have cN1 := cell_of_row _ _ 1 _ _ _ hst.n
    have fN1 := blk_frozen hst.n 1
    have cZ0 := cell_of_row _ _ 0 _ _ _ hst.z
    have fZ0 := blk_frozen hst.z 0
    have hlw := HB3.out.size
    have x1 := blk_set hst.x 5 (.int .i64 3)
    have HST := hide (own_stores hst (by omega) (by omega) (by omega) hxn hxz hnz lx ln lz (by omega))
    have hne1 : ¬ gX = gN := hxn
    have hne2 : ¬ gX = gZ := hxz
    have hne3 : ¬ gN = gZ := hnz
    clear hst x1 HY5 HA5 HB5
    go_upto_region 9 with fail
    obtain ⟨w6, hw6⟩ : ∃ w6, ((wc.setCell ⟨gX, 5, none⟩ (.int .i64 3)).setCell ⟨gN, 1, none⟩ (.int .i64 (-1))).setCell ⟨gZ, 0, none⟩ (.int .i64 12) = w6 := ⟨_, rfl⟩
    rw [hw6] at HST ⊢
    clear hw6 cX5 fX5 cN1 fN1 cZ0 fZ0 hne1 hne2 hne3 hxn hxz hnz lx ln lz hlw hg5 hgw
    have cX0 : w6.cell? ⟨gX, 0, none⟩ = some (.int .i64 y0) := cell_of_row _ _ 0 _ _ _ HST.out.x
    have cX1 : w6.cell? ⟨gX, 1, none⟩ = some (.int .i64 y1) := cell_of_row _ _ 1 _ _ _ HST.out.x
    have cX2 : w6.cell? ⟨gX, 2, none⟩ = some (.int .i64 y2) := cell_of_row _ _ 2 _ _ _ HST.out.x
    have cX3 : w6.cell? ⟨gX, 3, none⟩ = some (.int .i64 y3) := cell_of_row _ _ 3 _ _ _ HST.out.x
    have cX4 : w6.cell? ⟨gX, 4, none⟩ = some (.int .i64 y4) := cell_of_row _ _ 4 _ _ _ HST.out.x
    have cX5 : w6.cell? ⟨gX, 5, none⟩ = some (.int .i64 3) := cell_of_row _ _ 5 _ _ _ HST.out.x
    have cX6 : w6.cell? ⟨gX, 6, none⟩ = some (.string y6) := cell_of_row _ _ 6 _ _ _ HST.out.x
    have cX7 : w6.cell? ⟨gX, 7, none⟩ = some (.slice A7 y7.length c7) := cell_of_row _ _ 7 _ _ _ HST.out.x
    have cX8 : w6.cell? ⟨gX, 8, none⟩ = some (.string y8) := cell_of_row _ _ 8 _ _ _ HST.out.x
    go_wp2_with fail
    refine (HRX.out w6 HST.out.bel).mono ?_
    rintro e w7 ⟨rfl, hbs⟩
    dsimp only
    have HST2 := hide (HST.out.step hbs)
    clear hbs HST cX0 cX1 cX2 cX3 cX4 cX5 cX6 cX7 cX8
    have HST := HST2
    clear HST2
    have cN0 : w7.cell? ⟨gN, 0, none⟩ = some (.int .i64 y0) := cell_of_row _ _ 0 _ _ _ HST.out.n
    have cN1 : w7.cell? ⟨gN, 1, none⟩ = some (.int .i64 (-1)) := cell_of_row _ _ 1 _ _ _ HST.out.n
    have cN2 : w7.cell? ⟨gN, 2, none⟩ = some (.int .i64 y2) := cell_of_row _ _ 2 _ _ _ HST.out.n
    have cN3 : w7.cell? ⟨gN, 3, none⟩ = some (.int .i64 y3) := cell_of_row _ _ 3 _ _ _ HST.out.n
    have cN4 : w7.cell? ⟨gN, 4, none⟩ = some (.int .i64 y4) := cell_of_row _ _ 4 _ _ _ HST.out.n
    have cN5 : w7.cell? ⟨gN, 5, none⟩ = some (.int .i64 y5) := cell_of_row _ _ 5 _ _ _ HST.out.n
    have cN6 : w7.cell? ⟨gN, 6, none⟩ = some (.string y6) := cell_of_row _ _ 6 _ _ _ HST.out.n
    have cN7 : w7.cell? ⟨gN, 7, none⟩ = some (.slice A7 y7.length c7) := cell_of_row _ _ 7 _ _ _ HST.out.n
    have cN8 : w7.cell? ⟨gN, 8, none⟩ = some (.string y8) := cell_of_row _ _ 8 _ _ _ HST.out.n
    go_wp2_with fail
    refine (HRN.out w7 HST.out.bel).mono ?_
    rintro e w8 ⟨rfl, hbs⟩
    dsimp only
    have HST2 := hide (HST.out.step hbs)
    clear hbs HST cN0 cN1 cN2 cN3 cN4 cN5 cN6 cN7 cN8
    have HST := HST2
    clear HST2
    have cZ0 : w8.cell? ⟨gZ, 0, none⟩ = some (.int .i64 12) := cell_of_row _ _ 0 _ _ _ HST.out.z
    have cZ1 : w8.cell? ⟨gZ, 1, none⟩ = some (.int .i64 y1) := cell_of_row _ _ 1 _ _ _ HST.out.z
    have cZ2 : w8.cell? ⟨gZ, 2, none⟩ = some (.int .i64 y2) := cell_of_row _ _ 2 _ _ _ HST.out.z
    have cZ3 : w8.cell? ⟨gZ, 3, none⟩ = some (.int .i64 y3) := cell_of_row _ _ 3 _ _ _ HST.out.z
    have cZ4 : w8.cell? ⟨gZ, 4, none⟩ = some (.int .i64 y4) := cell_of_row _ _ 4 _ _ _ HST.out.z
    have cZ5 : w8.cell? ⟨gZ, 5, none⟩ = some (.int .i64 y5) := cell_of_row _ _ 5 _ _ _ HST.out.z
    have cZ6 : w8.cell? ⟨gZ, 6, none⟩ = some (.string y6) := cell_of_row _ _ 6 _ _ _ HST.out.z
    have cZ7 : w8.cell? ⟨gZ, 7, none⟩ = some (.slice A7 y7.length c7) := cell_of_row _ _ 7 _ _ _ HST.out.z
    have cZ8 : w8.cell? ⟨gZ, 8, none⟩ = some (.string y8) := cell_of_row _ _ 8 _ _ _ HST.out.z
    go_wp2_with fail
    refine (HRZ.out w8 HST.out.bel).mono ?_
    rintro e w9 ⟨rfl, hbs⟩
    dsimp only
    have HST2 := hide (HST.out.step hbs)
    clear hbs HST cZ0 cZ1 cZ2 cZ3 cZ4 cZ5 cZ6 cZ7 cZ8
    have HST := HST2
    clear HST2
    have cY0 : w9.cell? ⟨g, 0, none⟩ = some (.int .i64 y0) := cell_of_row _ _ 0 _ _ _ HST.out.y
    have cY1 : w9.cell? ⟨g, 1, none⟩ = some (.int .i64 y1) := cell_of_row _ _ 1 _ _ _ HST.out.y
    have cY2 : w9.cell? ⟨g, 2, none⟩ = some (.int .i64 y2) := cell_of_row _ _ 2 _ _ _ HST.out.y
    have cY3 : w9.cell? ⟨g, 3, none⟩ = some (.int .i64 y3) := cell_of_row _ _ 3 _ _ _ HST.out.y
    have cY4 : w9.cell? ⟨g, 4, none⟩ = some (.int .i64 y4) := cell_of_row _ _ 4 _ _ _ HST.out.y
    have cY5 : w9.cell? ⟨g, 5, none⟩ = some (.int .i64 y5) := cell_of_row _ _ 5 _ _ _ HST.out.y
    have cY6 : w9.cell? ⟨g, 6, none⟩ = some (.string y6) := cell_of_row _ _ 6 _ _ _ HST.out.y
    have cY7 : w9.cell? ⟨g, 7, none⟩ = some (.slice A7 y7.length c7) := cell_of_row _ _ 7 _ _ _ HST.out.y
    have cY8 : w9.cell? ⟨g, 8, none⟩ = some (.string y8) := cell_of_row _ _ 8 _ _ _ HST.out.y
    have cX0 : w9.cell? ⟨gX, 0, none⟩ = some (.int .i64 y0) := cell_of_row _ _ 0 _ _ _ HST.out.x
    have cX1 : w9.cell? ⟨gX, 1, none⟩ = some (.int .i64 y1) := cell_of_row _ _ 1 _ _ _ HST.out.x
    have cX2 : w9.cell? ⟨gX, 2, none⟩ = some (.int .i64 y2) := cell_of_row _ _ 2 _ _ _ HST.out.x
    have cX3 : w9.cell? ⟨gX, 3, none⟩ = some (.int .i64 y3) := cell_of_row _ _ 3 _ _ _ HST.out.x
    have cX4 : w9.cell? ⟨gX, 4, none⟩ = some (.int .i64 y4) := cell_of_row _ _ 4 _ _ _ HST.out.x
    have cX5 : w9.cell? ⟨gX, 5, none⟩ = some (.int .i64 3) := cell_of_row _ _ 5 _ _ _ HST.out.x
    have cX6 : w9.cell? ⟨gX, 6, none⟩ = some (.string y6) := cell_of_row _ _ 6 _ _ _ HST.out.x
    have cX7 : w9.cell? ⟨gX, 7, none⟩ = some (.slice A7 y7.length c7) := cell_of_row _ _ 7 _ _ _ HST.out.x
    have cX8 : w9.cell? ⟨gX, 8, none⟩ = some (.string y8) := cell_of_row _ _ 8 _ _ _ HST.out.x
    go_wp2_with fail
    refine (HSX.out w9 HST.out.bel).mono ?_
    rintro e w10 ⟨rfl, hbs⟩
    dsimp only
    have HST2 := hide (HST.out.step hbs)
    clear hbs HST cY0 cY1 cY2 cY3 cY4 cY5 cY6 cY7 cY8 cX0 cX1 cX2 cX3 cX4 cX5 cX6 cX7 cX8
    have HST := HST2
    clear HST2
    have cY0 : w10.cell? ⟨g, 0, none⟩ = some (.int .i64 y0) := cell_of_row _ _ 0 _ _ _ HST.out.y
    have cY1 : w10.cell? ⟨g, 1, none⟩ = some (.int .i64 y1) := cell_of_row _ _ 1 _ _ _ HST.out.y
    have cY2 : w10.cell? ⟨g, 2, none⟩ = some (.int .i64 y2) := cell_of_row _ _ 2 _ _ _ HST.out.y
    have cY3 : w10.cell? ⟨g, 3, none⟩ = some (.int .i64 y3) := cell_of_row _ _ 3 _ _ _ HST.out.y
    have cY4 : w10.cell? ⟨g, 4, none⟩ = some (.int .i64 y4) := cell_of_row _ _ 4 _ _ _ HST.out.y
    have cY5 : w10.cell? ⟨g, 5, none⟩ = some (.int .i64 y5) := cell_of_row _ _ 5 _ _ _ HST.out.y
    have cY6 : w10.cell? ⟨g, 6, none⟩ = some (.string y6) := cell_of_row _ _ 6 _ _ _ HST.out.y
    have cY7 : w10.cell? ⟨g, 7, none⟩ = some (.slice A7 y7.length c7) := cell_of_row _ _ 7 _ _ _ HST.out.y
    have cY8 : w10.cell? ⟨g, 8, none⟩ = some (.string y8) := cell_of_row _ _ 8 _ _ _ HST.out.y
    have cZ0 : w10.cell? ⟨gZ, 0, none⟩ = some (.int .i64 12) := cell_of_row _ _ 0 _ _ _ HST.out.z
    have cZ1 : w10.cell? ⟨gZ, 1, none⟩ = some (.int .i64 y1) := cell_of_row _ _ 1 _ _ _ HST.out.z
    have cZ2 : w10.cell? ⟨gZ, 2, none⟩ = some (.int .i64 y2) := cell_of_row _ _ 2 _ _ _ HST.out.z
    have cZ3 : w10.cell? ⟨gZ, 3, none⟩ = some (.int .i64 y3) := cell_of_row _ _ 3 _ _ _ HST.out.z
    have cZ4 : w10.cell? ⟨gZ, 4, none⟩ = some (.int .i64 y4) := cell_of_row _ _ 4 _ _ _ HST.out.z
    have cZ5 : w10.cell? ⟨gZ, 5, none⟩ = some (.int .i64 y5) := cell_of_row _ _ 5 _ _ _ HST.out.z
    have cZ6 : w10.cell? ⟨gZ, 6, none⟩ = some (.string y6) := cell_of_row _ _ 6 _ _ _ HST.out.z
    have cZ7 : w10.cell? ⟨gZ, 7, none⟩ = some (.slice A7 y7.length c7) := cell_of_row _ _ 7 _ _ _ HST.out.z
    have cZ8 : w10.cell? ⟨gZ, 8, none⟩ = some (.string y8) := cell_of_row _ _ 8 _ _ _ HST.out.z
    go_wp2_with fail
    refine (HSZ.out w10 HST.out.bel).mono ?_
    rintro e w11 ⟨rfl, hbs⟩
    dsimp only
    have HST2 := hide (HST.out.step hbs)
    clear hbs HST cY0 cY1 cY2 cY3 cY4 cY5 cY6 cY7 cY8 cZ0 cZ1 cZ2 cZ3 cZ4 cZ5 cZ6 cZ7 cZ8
    have HST := HST2
    clear HST2
    have cY0 : w11.cell? ⟨g, 0, none⟩ = some (.int .i64 y0) := cell_of_row _ _ 0 _ _ _ HST.out.y
    have cY1 : w11.cell? ⟨g, 1, none⟩ = some (.int .i64 y1) := cell_of_row _ _ 1 _ _ _ HST.out.y
    have cY2 : w11.cell? ⟨g, 2, none⟩ = some (.int .i64 y2) := cell_of_row _ _ 2 _ _ _ HST.out.y
    have cY3 : w11.cell? ⟨g, 3, none⟩ = some (.int .i64 y3) := cell_of_row _ _ 3 _ _ _ HST.out.y
    have cY4 : w11.cell? ⟨g, 4, none⟩ = some (.int .i64 y4) := cell_of_row _ _ 4 _ _ _ HST.out.y
    have cY5 : w11.cell? ⟨g, 5, none⟩ = some (.int .i64 y5) := cell_of_row _ _ 5 _ _ _ HST.out.y
    have cY6 : w11.cell? ⟨g, 6, none⟩ = some (.string y6) := cell_of_row _ _ 6 _ _ _ HST.out.y
    have cY7 : w11.cell? ⟨g, 7, none⟩ = some (.slice A7 y7.length c7) := cell_of_row _ _ 7 _ _ _ HST.out.y
    have cY8 : w11.cell? ⟨g, 8, none⟩ = some (.string y8) := cell_of_row _ _ 8 _ _ _ HST.out.y
    go_upto_region 11 with fail
    go_cut [56] from 49 to 55 (fun v wx => ∃ b : Bool, v = .bool b ∧ (b = true → y0 ≠ 1 ∧ y0 ≠ 10) ∧ OwnSt w w3 g gX gN gZ #[.int .i64 y0, .int .i64 y1, .int .i64 y2, .int .i64 y3, .int .i64 y4, .int .i64 y5, .string y6, .slice A7 y7.length c7, .string y8] #[.int .i64 y0, .int .i64 y1, .int .i64 y2, .int .i64 y3, .int .i64 y4, .int .i64 3, .string y6, .slice A7 y7.length c7, .string y8] #[.int .i64 y0, .int .i64 (-1), .int .i64 y2, .int .i64 y3, .int .i64 y4, .int .i64 y5, .string y6, .slice A7 y7.length c7, .string y8] #[.int .i64 12, .int .i64 y1, .int .i64 y2, .int .i64 y3, .int .i64 y4, .int .i64 y5, .string y6, .slice A7 y7.length c7, .string y8] wx)
    case first =>
      by_cases h1 : y0 = 1
      · have e1 : (y0 == 1) = true := beq_iff_eq.2 h1
        have e1' : (y0 != 1) = false := bne_eq_false_iff_eq.2 h1
        clear h1
        go_wp2_with fail
        go_meet
        exact ⟨false, rfl, (fun h => by cases h), HST.out⟩
      · have e1 : (y0 == 1) = false := beq_eq_false_iff_ne.2 h1
        have e1' : (y0 != 1) = true := bne_iff_ne.2 h1
        by_cases h10 : y0 = 10
        · have e2 : (y0 == 10) = true := beq_iff_eq.2 h10
          have e2' : (y0 != 10) = false := bne_eq_false_iff_eq.2 h10
          clear h1 h10
          go_wp2_with fail
          go_meet
          exact ⟨false, rfl, (fun h => by cases h), HST.out⟩
        · have e2 : (y0 == 10) = false := beq_eq_false_iff_ne.2 h10
          have e2' : (y0 != 10) = true := bne_iff_ne.2 h10
          have HH := hide h1
          have HH2 := hide h10
          clear h1 h10
          go_wp2_with fail
          go_meet
          exact ⟨true, rfl, fun _ => ⟨HH.out, HH2.out⟩, HST.out⟩
    case rest =>
    obtain ⟨b, rfl, hbk, hst11⟩ := hcut
    clear HST cY0 cY1 cY2 cY3 cY4 cY5 cY6 cY7 cY8
    have HST := hide hst11
    clear hst11
    have hYw := HST.out.y
    have cY0 : wc.cell? ⟨g, 0, none⟩ = some (.int .i64 y0) := cell_of_row _ _ 0 _ _ _ hYw
    have cY1 : wc.cell? ⟨g, 1, none⟩ = some (.int .i64 y1) := cell_of_row _ _ 1 _ _ _ hYw
    have cY2 : wc.cell? ⟨g, 2, none⟩ = some (.int .i64 y2) := cell_of_row _ _ 2 _ _ _ hYw
    have cY3 : wc.cell? ⟨g, 3, none⟩ = some (.int .i64 y3) := cell_of_row _ _ 3 _ _ _ hYw
    have cY4 : wc.cell? ⟨g, 4, none⟩ = some (.int .i64 y4) := cell_of_row _ _ 4 _ _ _ hYw
    have cY5 : wc.cell? ⟨g, 5, none⟩ = some (.int .i64 y5) := cell_of_row _ _ 5 _ _ _ hYw
    have cY6 : wc.cell? ⟨g, 6, none⟩ = some (.string y6) := cell_of_row _ _ 6 _ _ _ hYw
    have cY7 : wc.cell? ⟨g, 7, none⟩ = some (.slice A7 y7.length c7) := cell_of_row _ _ 7 _ _ _ hYw
    have cY8 : wc.cell? ⟨g, 8, none⟩ = some (.string y8) := cell_of_row _ _ 8 _ _ _ hYw
    clear hYw
    go_upto_if 56 with fail
    go_cut [] from 57 to 64 (fun wx => OwnSt w w3 g gX gN gZ #[.int .i64 y0, .int .i64 y1, .int .i64 y2, .int .i64 y3, .int .i64 y4, .int .i64 y5, .string y6, .slice A7 y7.length c7, .string y8] #[.int .i64 y0, .int .i64 y1, .int .i64 y2, .int .i64 y3, .int .i64 y4, .int .i64 3, .string y6, .slice A7 y7.length c7, .string y8] #[.int .i64 y0, .int .i64 (-1), .int .i64 y2, .int .i64 y3, .int .i64 y4, .int .i64 y5, .string y6, .slice A7 y7.length c7, .string y8] #[.int .i64 12, .int .i64 y1, .int .i64 y2, .int .i64 y3, .int .i64 y4, .int .i64 y5, .string y6, .slice A7 y7.length c7, .string y8] wx)
    case first =>
      cases b with
      | false =>
        go_wp2_with fail
        go_meet
        exact HST.out
      | true =>
        have hk := hbk rfl
        have HWX := hide (own_w ⟨y0, y1, y2, y3, y4, y5, y6, y7, y8⟩ ⟨capL s 5, ⟨#[]⟩⟩ hk.1 hk.2)
        have HHD := hide (fun W => arbourkeep_Head.calls s 5 (capL s 5) W (head_some s 5))
        obtain ⟨s5, hs5⟩ : ∃ x, capL s 5 = x := ⟨_, rfl⟩
        rw [hs5] at HWX HHD
        clear hk hbk hs5
        have hV := heap_alloc_new wc (.cells #[.int .i64 y0, .int .i64 y1, .int .i64 y2, .int .i64 y3, .int .i64 y4, .int .i64 y5, .string y6, .slice A7 y7.length c7, .string y8] 24)
        have b12 := below_alloc (Below.refl wc.heap.size wc) (.cells #[.int .i64 y0, .int .i64 y1, .int .i64 y2, .int .i64 y3, .int .i64 y4, .int .i64 y5, .string y6, .slice A7 y7.length c7, .string y8] 24)
        obtain ⟨w12, hw12⟩ : ∃ w12, wc.alloc (.cells #[.int .i64 y0, .int .i64 y1, .int .i64 y2, .int .i64 y3, .int .i64 y4, .int .i64 y5, .string y6, .slice A7 y7.length c7, .string y8] 24) = w12 := ⟨_, rfl⟩
        rw [hw12] at hV b12
        have HST12 := hide (HST.out.step b12)
        have HW12 := hide hw12
        obtain ⟨gV, hgV⟩ : ∃ g, wc.heap.size = g := ⟨_, rfl⟩
        rw [hgV] at hV
        have hgg : w3.heap.size ≤ gV := by rw [← hgV]; exact HST.out.bel.size
        have HGV := hide hgV
        have HV := hide hV
        have hgv1 : g ≠ gV := by rw [← hgV]; exact Nat.ne_of_lt (blk_lt HST.out.y)
        have hgv2 : gX ≠ gV := by rw [← hgV]; exact Nat.ne_of_lt (blk_lt HST.out.x)
        have hgv3 : gN ≠ gV := by rw [← hgV]; exact Nat.ne_of_lt (blk_lt HST.out.n)
        have hgv4 : gZ ≠ gV := by rw [← hgV]; exact Nat.ne_of_lt (blk_lt HST.out.z)
        have HGVN := hide (And.intro hgv1 (And.intro hgv2 (And.intro hgv3 hgv4)))
        clear hw12 b12 hgV hV HST hgv1 hgv2 hgv3 hgv4
        go_wp2_with fail
        rw [HW12.out, HGV.out]
        refine (HHD.out w12).mono ?_
        rintro e w13 ⟨rfl, hd⟩
        dsimp only
        have bd := hd.below
        have hV13 := (bd.block _ (blk_lt HV.out)).trans HV.out
        have HST13 := hide (HST12.out.step bd)
        have b14 := below_alloc (Below.refl w13.heap.size w13) (.cells #[.string s5, .string ⟨#[]⟩] 32)
        have hL := heap_alloc_new w13 (.cells #[.string s5, .string ⟨#[]⟩] 32)
        obtain ⟨w14, hw14⟩ : ∃ w14, w13.alloc (.cells #[.string s5, .string ⟨#[]⟩] 32) = w14 := ⟨_, rfl⟩
        rw [hw14] at b14 hL
        have hV14 := (b14.block _ (blk_lt hV13)).trans hV13
        have HST14 := hide (HST13.out.step b14)
        have hlv := blk_lt hV13
        obtain ⟨gL, hgL⟩ : ∃ g, w13.heap.size = g := ⟨_, rfl⟩
        rw [hgL] at hL hlv
        have HL := hide hL
        have HV14 := hide hV14
        have HGL := hide hgL
        have HW14 := hide hw14
        have uV7 : (w13.alloc (.cells #[.string s5, .string ⟨#[]⟩] 32)).cell? ⟨gV, 7, none⟩ = some (.slice A7 y7.length c7) := by rw [hw14]; exact cell_of_row _ _ 7 _ _ _ hV14
        have fV7 : (w13.alloc (.cells #[.string s5, .string ⟨#[]⟩] 32)).frozen? ⟨gV, 7, none⟩ = false := by rw [hw14]; exact blk_frozen hV14 7
        have hlw := HB3.out.size
        have hLV : gL ≠ gV := by omega
        clear hV13 hV14 b14 hL hgL hw14 hd bd cY0 cY1 cY2 cY3 cY4 cY5 cY6 cY7 cY8
        go_upto_region 14 with fail
        rw [HW14.out, HGL.out]
        have hV15 : (w14.setCell ⟨gV, 7, none⟩ (.slice (some ⟨gL, 0, none⟩) 1 1)).heap[gV]? = some (.cells #[.int .i64 y0, .int .i64 y1, .int .i64 y2, .int .i64 y3, .int .i64 y4, .int .i64 y5, .string y6, .slice (some ⟨gL, 0, none⟩) 1 1, .string y8] 24 (0, 0)) := blk_set HV14.out 7 _
        have hL15 := (Below.heap_setCell w14 ⟨gV, 7, none⟩ (.slice (some ⟨gL, 0, none⟩) 1 1) gL hLV).trans HL.out
        have hS15 := HST14.out.setFar (p := ⟨gV, 7, none⟩) HGVN.out.1 HGVN.out.2.1 HGVN.out.2.2.1 HGVN.out.2.2.2 hgg (Nat.le_trans hlw hgg) (.slice (some ⟨gL, 0, none⟩) 1 1)
        obtain ⟨w15, hw15⟩ : ∃ w15, w14.setCell ⟨gV, 7, none⟩ (.slice (some ⟨gL, 0, none⟩) 1 1) = w15 := ⟨_, rfl⟩
        rw [hw15] at hV15 hL15 hS15 ⊢
        have HS15 := hide hS15
        have HR15 := hide (right { (⟨y0, y1, y2, y3, y4, y5, y6, y7, y8⟩ : S24) with f7 := [⟨s5, ⟨#[]⟩⟩] } (some ⟨gL, 0, none⟩) 1 w15 (lit1_C (x := ⟨s5, ⟨#[]⟩⟩) hL15) (Nat.le_refl _))
        rw [HWX.out] at HR15
        dsimp only at HR15
        have cV0 : w15.cell? ⟨gV, 0, none⟩ = some (.int .i64 y0) := cell_of_row _ _ 0 _ _ _ hV15
        have cV1 : w15.cell? ⟨gV, 1, none⟩ = some (.int .i64 y1) := cell_of_row _ _ 1 _ _ _ hV15
        have cV2 : w15.cell? ⟨gV, 2, none⟩ = some (.int .i64 y2) := cell_of_row _ _ 2 _ _ _ hV15
        have cV3 : w15.cell? ⟨gV, 3, none⟩ = some (.int .i64 y3) := cell_of_row _ _ 3 _ _ _ hV15
        have cV4 : w15.cell? ⟨gV, 4, none⟩ = some (.int .i64 y4) := cell_of_row _ _ 4 _ _ _ hV15
        have cV5 : w15.cell? ⟨gV, 5, none⟩ = some (.int .i64 y5) := cell_of_row _ _ 5 _ _ _ hV15
        have cV6 : w15.cell? ⟨gV, 6, none⟩ = some (.string y6) := cell_of_row _ _ 6 _ _ _ hV15
        have cV7 : w15.cell? ⟨gV, 7, none⟩ = some (.slice (some ⟨gL, 0, none⟩) 1 1) := cell_of_row _ _ 7 _ _ _ hV15
        have cV8 : w15.cell? ⟨gV, 8, none⟩ = some (.string y8) := cell_of_row _ _ 8 _ _ _ hV15
        clear hw15 hV15 hL15 hS15 uV7 fV7 hLV
        go_wp2_with fail
        refine HR15.out.mono ?_
        rintro e w16 ⟨rfl, hb16⟩
        dsimp only
        have HS16 := hide (HS15.out.step hb16)
        clear hb16
        go_wp2_with fail
        go_meet
        exact HS16.out
    case rest =>
      clear HRX HRN HRZ HSX HSZ HST HR0 HS0 cY0 cY1 cY2 cY3 cY4 cY5 cY6 cY7 cY8 hbk
      have hYc := hcut.y
      have cY0 : wc.cell? ⟨g, 0, none⟩ = some (.int .i64 y0) := cell_of_row _ _ 0 _ _ _ hYc
      have cY1 : wc.cell? ⟨g, 1, none⟩ = some (.int .i64 y1) := cell_of_row _ _ 1 _ _ _ hYc
      have cY2 : wc.cell? ⟨g, 2, none⟩ = some (.int .i64 y2) := cell_of_row _ _ 2 _ _ _ hYc
      have cY3 : wc.cell? ⟨g, 3, none⟩ = some (.int .i64 y3) := cell_of_row _ _ 3 _ _ _ hYc
      have cY4 : wc.cell? ⟨g, 4, none⟩ = some (.int .i64 y4) := cell_of_row _ _ 4 _ _ _ hYc
      have cY5 : wc.cell? ⟨g, 5, none⟩ = some (.int .i64 y5) := cell_of_row _ _ 5 _ _ _ hYc
      have cY6 : wc.cell? ⟨g, 6, none⟩ = some (.string y6) := cell_of_row _ _ 6 _ _ _ hYc
      have cY7 : wc.cell? ⟨g, 7, none⟩ = some (.slice A7 y7.length c7) := cell_of_row _ _ 7 _ _ _ hYc
      have cY8 : wc.cell? ⟨g, 8, none⟩ = some (.string y8) := cell_of_row _ _ 8 _ _ _ hYc
      have hU := heap_alloc_new wc (.cells #[.int .i64 y0, .int .i64 y1, .int .i64 y2, .int .i64 y3, .int .i64 y4, .int .i64 y5, .string y6, .slice A7 y7.length c7, .string y8] 24)
      have b12 := below_alloc (Below.refl wc.heap.size wc) (.cells #[.int .i64 y0, .int .i64 y1, .int .i64 y2, .int .i64 y3, .int .i64 y4, .int .i64 y5, .string y6, .slice A7 y7.length c7, .string y8] 24)
      obtain ⟨w12, hw12⟩ : ∃ w12, wc.alloc (.cells #[.int .i64 y0, .int .i64 y1, .int .i64 y2, .int .i64 y3, .int .i64 y4, .int .i64 y5, .string y6, .slice A7 y7.length c7, .string y8] 24) = w12 := ⟨_, rfl⟩
      rw [hw12] at hU b12
      have HST := hide (hcut.step b12)
      have HW12 := hide hw12
      obtain ⟨gU, hgU⟩ : ∃ g, wc.heap.size = g := ⟨_, rfl⟩
      rw [hgU] at hU
      have hgg : w3.heap.size ≤ gU := by rw [← hgU]; exact hcut.bel.size
      have hgw : g < w3.heap.size := blk_lt HN.out
      have hyg : g ≠ gU := by omega
      have HGU := hide hgU
      have n1 : ¬ 9223372036854775807 < y8.size + 1 := by have := HTM.out.s8; dsimp only at this; omega
      have uF := blk_frozen hU 8
      have u8c := cell_of_row _ _ 8 _ _ _ hU
      have HU := hide hU
      clear hYc hcut hw12 hU b12 hgU
      go_upto_region 17 with fail
      rw [HW12.out, HGU.out]
      have v8 : w12.cell? ⟨g, 8, none⟩ = some (.string y8) := cell_of_row _ _ 8 _ _ _ HST.out.y
      go_cut [] from 66 to 69 (fun wx => ∃ t : ByteArray, t.size = y8.size + 1 ∧ wx.heap[gU]? = some (.cells #[.int .i64 y0, .int .i64 y1, .int .i64 y2, .int .i64 y3, .int .i64 y4, .int .i64 y5, .string y6, .slice A7 y7.length c7, .string t] 24 (0, 0)) ∧ wx.heap[g]? = some (.cells #[.int .i64 y0, .int .i64 y1, .int .i64 y2, .int .i64 y3, .int .i64 y4, .int .i64 y5, .string y6, .slice A7 y7.length c7, .string y8] 24 (0, 0)) ∧ Below w3.heap.size w3 wx ∧ Below w.heap.size w wx)
      case first =>
        have hlw := HB3.out.size
        go_wp2_with fail
        go_meet
        refine ⟨_, ?_, blk_set HU.out 8 _, (Below.heap_setCell _ ⟨gU, 8, none⟩ _ g hyg).trans HST.out.y, HST.out.bel.setCell (p := ⟨gU, 8, none⟩) hgg _, HST.out.all.setCell (p := ⟨gU, 8, none⟩) (Nat.le_trans hlw hgg) _⟩
        rw [ByteArray.size_append]
        rfl
      case rest =>
        obtain ⟨t, hts, hU, hY, hb3, hb0⟩ := hcut
        have htx := own_u ⟨y0, y1, y2, y3, y4, y5, y6, y7, y8⟩ t hts
        have htm := HTM.out
        have h7 := htm.s7
        have hi := tame_i64 htm
        have s6 := htm.s6
        have s8 := htm.s8
        dsimp only at h7 s6 s8 htx hi
        have hly := text_len ⟨y0, y1, y2, y3, y4, y5, y6, y7, y8⟩ hi (by dsimp only; omega) h7 (by dsimp only; omega)
        have hlu := text_len ⟨y0, y1, y2, y3, y4, y5, y6, y7, t⟩ hi (by dsimp only; omega) h7 (by dsimp only; omega)
        have HTY := hide (fun W (hb : Below wc.heap.size wc W) => text ⟨y0, y1, y2, y3, y4, y5, y6, y7, y8⟩ A7 c7 W (Kd.C_below HC7.out (below_step hb3 hb)) hi (by omega) (HT.out.below (below_step hb0 hb)))
        have HTU := hide (fun W (hb : Below wc.heap.size wc W) => text ⟨y0, y1, y2, y3, y4, y5, y6, y7, t⟩ A7 c7 W (Kd.C_below HC7.out (below_step hb3 hb)) hi (by omega) (HT.out.below (below_step hb0 hb)))
        have HKN := hide (fun W (hb : Below wc.heap.size wc W) => known W (HT.out.below (below_step hb0 hb)))
        dsimp only at HTY HTU
        have hnel : (⟨(textL ⟨y0, y1, y2, y3, y4, y5, y6, y7, t⟩).toArray⟩ : ByteArray).size ≠ (⟨(textL ⟨y0, y1, y2, y3, y4, y5, y6, y7, y8⟩).toArray⟩ : ByteArray).size := by
          rw [mk_size, mk_size]
          omega
        obtain ⟨su, hsu⟩ : ∃ s, (⟨(textL ⟨y0, y1, y2, y3, y4, y5, y6, y7, t⟩).toArray⟩ : ByteArray) = s := ⟨_, rfl⟩
        obtain ⟨sy, hsy⟩ : ∃ s, (⟨(textL ⟨y0, y1, y2, y3, y4, y5, y6, y7, y8⟩).toArray⟩ : ByteArray) = s := ⟨_, rfl⟩
        rw [hsu] at HTU hnel
        rw [hsy] at HTY hnel
        have hne : ¬ su = sy := fun e => hnel (by rw [e])
        have hnt : ¬ su.toList = sy.toList := fun e => hne (toList_inj e)
        have hbe : (su.toList == sy.toList) = false := beq_eq_false_iff_ne.2 hnt
        have hbn : (su.toList != sy.toList) = true := bne_iff_ne.2 hnt
        have HU := hide hU
        have HY := hide hY
        have HB0 := hide hb0
        clear hts hU hY hb3 hb0 htx htm h7 hi s6 s8 hly hlu hnel hsu hsy hne hnt u8c uF v8 n1
        go_wp2_with fail
        have hI := two9 HU.out HY.out ((Below.refl wc.heap.size wc).drew)
        go_region_held3 (fun W => W.cell? ⟨gU, 0, none⟩ = some (.int .i64 y0) ∧ W.cell? ⟨gU, 1, none⟩ = some (.int .i64 y1) ∧ W.cell? ⟨gU, 2, none⟩ = some (.int .i64 y2) ∧ W.cell? ⟨gU, 3, none⟩ = some (.int .i64 y3) ∧ W.cell? ⟨gU, 4, none⟩ = some (.int .i64 y4) ∧ W.cell? ⟨gU, 5, none⟩ = some (.int .i64 y5) ∧ W.cell? ⟨gU, 6, none⟩ = some (.string y6) ∧ W.cell? ⟨gU, 7, none⟩ = some (.slice A7 y7.length c7) ∧ W.cell? ⟨gU, 8, none⟩ = some (.string t) ∧ W.cell? ⟨g, 0, none⟩ = some (.int .i64 y0) ∧ W.cell? ⟨g, 1, none⟩ = some (.int .i64 y1) ∧ W.cell? ⟨g, 2, none⟩ = some (.int .i64 y2) ∧ W.cell? ⟨g, 3, none⟩ = some (.int .i64 y3) ∧ W.cell? ⟨g, 4, none⟩ = some (.int .i64 y4) ∧ W.cell? ⟨g, 5, none⟩ = some (.int .i64 y5) ∧ W.cell? ⟨g, 6, none⟩ = some (.string y6) ∧ W.cell? ⟨g, 7, none⟩ = some (.slice A7 y7.length c7) ∧ W.cell? ⟨g, 8, none⟩ = some (.string y8) ∧ Below wc.heap.size wc W)
          (first | exact hI | ((try go_split_ands); exact two9 HU.out HY.out (below_step (by assumption) bU)) | ((try go_split_ands); exact two9 HU.out HY.out (below_step (by assumption) bY)) | ((try go_split_ands); exact two9 HU.out HY.out (below_step (by assumption) bK)))
          (first | (go_at_call 11; (try go_split_ands); (with_reducible refine (HTU.out _ (by assumption)).mono ?_); rintro e wn ⟨rfl, bU⟩) | (go_at_call 11; (try go_split_ands); (with_reducible refine (HTY.out _ (by assumption)).mono ?_); rintro e wn ⟨rfl, bY⟩) | (go_at_call 12; (try go_split_ands); (with_reducible refine (HKN.out _ (by assumption)).mono ?_); rintro e wn ⟨rfl, bK⟩))
        all_goals (go_wp2_with fail; go_ret; (try go_split_ands); exact ⟨rfl, below_step HB0.out (by assumption)⟩)
end Go.Proofs.YtbljbgjecnmeeaaDoor.OpP
