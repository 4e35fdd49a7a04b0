/- The contracts of a stack (stack.Stack) of Jb: New, Push, Pop. -/
import Derived.Test.YtjebpaapkmbahaaArStkB
namespace Go.Proofs.Ytjebpaapkmbahaa.Ar
open Go.RowKit Go.Proofs.YtjebpaapkmbahaaW.PrintWords Go.Proofs.YtjebpaapkmbahaaW.PrintLast
structure Jb where
  x0 : Option Addr
  x1 : Int
def kJb : Kd Jb := Kd.iso (Kd.pair kPtr (Kd.int .i64)) (fun x => (x.x0, x.x1))
abbrev VJb (x : Jb) : Value := .agg #[.pointer x.x0, .int .i64 x.x1]
theorem kJb_M (w : World) (base : Nat) (ok : Nat → Prop) (x : Jb) : kJb.M w base ok x [.pointer x.x0, .int .i64 x.x1] := ⟨[.pointer x.x0], [.int .i64 x.x1], rfl, rfl, rfl⟩
theorem kJb_K {w : World} {x : Jb} {cs : List Value} (h : kJb.K w x cs) : cs = [.pointer x.x0, .int .i64 x.x1] := by
  obtain ⟨c0, c1, rfl, h0, h1⟩ := h
  have e0 : c0 = [.pointer x.x0] := h0
  have e1 : c1 = [.int .i64 x.x1] := h1
  subst e0
  subst e1
  rfl
theorem kJb_at {w : World} {A : Option Addr} {xs : List Jb} (h : kJb.C w A xs.length xs) (i : Nat) (hi : i < xs.length) : ∃ ad x, A = some ad ∧ xs[i]? = some x ∧ w.cell? (ad.add (i * 2)) = some (.pointer x.x0) ∧ w.cell? ⟨(ad.add (i * 2)).block, (ad.add (i * 2)).off + 1, none⟩ = some (.int .i64 x.x1) := by
  obtain ⟨ad, rfl, hc⟩ := h.2.2 (by omega)
  obtain ⟨cs, hl, hK, hcell⟩ := hc i _ (List.getElem?_eq_getElem hi)
  obtain rfl := kJb_K hK
  exact ⟨ad, xs[i], rfl, List.getElem?_eq_getElem hi, hcell 0 _ rfl, by rw [← add_field _ _ 1 (by omega)]; exact hcell 1 _ rfl⟩
theorem info81 : (Try.prog.info? 81).map (fun i => (i.zero, i.size, i.bytes)) = some (some (.agg #[.pointer none, .int .i64 0]), 2, 16) := by kernel_rfl
/-- The stack: its struct in the block s, its row v; all from base on. -/
structure StkJb (base s : Nat) (v : Value) (xs : List Jb) (w : World) : Prop where
  stk : w.heap[s]? = some (.cells #[v] 109 (0, 0))
  row : kJb.R 81 w base (fun _ => True) v xs
  bs : base ≤ s
theorem StkJb.below {base s : Nat} {v : Value} {xs : List Jb} {w w' : World} (h : StkJb base s v xs w) (hb : Below w.heap.size w w') : StkJb base s v xs w' :=
  ⟨(hb.block _ (blk_lt h.stk)).trans h.stk, Kd.R_below h.row hb, h.bs⟩
theorem StkJb.step {base s : Nat} {v : Value} {xs : List Jb} {w w' : World} (h : StkJb base s v xs w) {B : Nat} (hp : ∃ v1, Push_ w w' s v v1) (hB : B ≤ base) : Below B w w' := by
  obtain ⟨v1, hp⟩ := hp
  exact hp.below (Nat.le_trans hB h.bs) (fun k hk => Nat.le_trans hB (Kd.R_base h.row k hk)) (Nat.le_trans (Nat.le_trans hB h.bs) (Nat.le_of_lt (blk_lt h.stk)))
set_option maxHeartbeats 4000000 in
set_option maxRecDepth 100000 in
theorem newJb (base : Nat) (w : World) (hb : base ≤ w.heap.size) : Calls Try.prog 48 #[] w fun e w' => ∃ s, e = .returned (.pointer (some ⟨s, 0, none⟩)) ∧ StkJb base s (.slice none 0 0) [] w' ∧ Below w.heap.size w w' := by
  go_enter Try.func48, Try.ntmps48
  go_wp2_with fail
  go_ret
  exact ⟨w.heap.size, rfl, ⟨heap_alloc_new w _, Kd.R_nil _ _ _ _ _, hb⟩, below_alloc (Below.refl _ _) _⟩
set_option maxHeartbeats 4000000 in
set_option maxRecDepth 100000 in
theorem pushJb (base s : Nat) (v : Value) (xs : List Jb) (x : Jb) (w : World) (hl : StkJb base s v xs w) (hb : base ≤ w.heap.size) (hn : xs.length ≤ 1000000000) :
    Calls Try.prog 49 #[.pointer (some ⟨s, 0, none⟩), VJb x] w fun e w' => e = .returned (.tuple #[]) ∧ ∃ v1, StkJb base s v1 (xs ++ [x]) w' ∧ Push_ w w' s v v1 := by
  obtain ⟨hs, hr, hbs⟩ := hl
  obtain ⟨x0, x1⟩ := x
  show Calls Try.prog 49 #[.pointer (some ⟨s, 0, none⟩), .agg #[.pointer x0, .int .i64 x1]] w _
  have hcv : w.cell? ⟨s, 0, none⟩ = some v := cell_of_row w s 0 _ _ _ hs
  have hsz := blk_lt hs
  have hsv := Kd.R_ne hr hs (by decide)
  go_enter Try.func49, Try.ntmps49
  go_wp2_with fail
  obtain ⟨wX, hX⟩ : ∃ wX, w.alloc (.cells #[.pointer x0, .int .i64 x1] 81) = wX := ⟨_, rfl⟩
  have hbel : Below w.heap.size w wX := by rw [← hX]; exact below_alloc (Below.refl _ _) _
  have hnew : wX.heap[w.heap.size]? = some (.cells #[.pointer x0, .int .i64 x1] 81 (0, 0)) := by rw [← hX]; exact heap_alloc_new w _
  rw [hX]
  clear hX
  have y0 : wX.cell? ⟨w.heap.size, 0, none⟩ = some (.pointer x0) := cell_of_row _ _ 0 _ _ _ hnew
  have y1 : wX.cell? ⟨w.heap.size, 1, none⟩ = some (.int .i64 x1) := cell_of_row _ _ 1 _ _ _ hnew
  have ys : wX.cell? ⟨s, 0, none⟩ = some v := (hbel.cell hsz).trans hcv
  have HR := hide (Kd.R_drew (Kd.R_below hr hbel))
  have HSX := hide ((hbel.block s hsz).trans hs)
  have HM := hide (kJb_M wX.drew base (fun _ => False) ⟨x0, x1⟩)
  have HB := hide hbel
  have HSV := hide hsv
  have hbX : base ≤ wX.drew.heap.size := Nat.le_trans hb hbel.size
  have ys2 : (wX.alloc (.cells #[.pointer x0, .int .i64 x1] 81)).cell? ⟨s, 0, none⟩ = some v := ((below_alloc (Below.refl wX.heap.size wX) _).cell (World.block_lt_of_cell? _ _ ys)).trans ys
  clear hnew hbel hr hs hsv hcv
  go_region_law
    (first | (refine Kd.R_append_step kJb (w0 := wX.drew) base rfl (.tmp 8) (.tmp 10) 107 81 (.agg #[.pointer none, .int .i64 0]) 16 rfl Try.underlying107 info81 rfl (by decide) (by decide) v xs ⟨x0, x1⟩ [.pointer x0, .int .i64 x1] (fun _ => True) (fun _ => False) rfl rfl HM.out (fun k hk => hk.elim) (fun _ _ => trivial) HR.out (Below.refl _ _) hbX (by omega) ?_; intro v1 wA ho hb2 hg hown; obtain ⟨Av1, cv1, rfl⟩ := Kd.R_slice ho; have HO := hide ho; have HG := hide hg; have HW := hide hown; have hA := (hg.block s (blk_lt HSX.out) HSV.out).trans HSX.out; have HA := hide hA; have a1 : wA.cell? ⟨s, 0, none⟩ = some v := cell_of_row wA s 0 _ _ _ hA; have a2 := blk_frozen hA 0; clear ho hb2 hg hown hA))
  all_goals (
    go_end0
    have hO := HO.out
    simp only [List.length_append, List.length_cons, List.length_nil, Nat.zero_add] at hO
    refine ⟨rfl, .slice Av1 (xs.length + 1) cv1, ⟨?_, Kd.R_set hO HA.out (by decide) 0 _, hbs⟩, ?_, ?_, ?_, ?_, ?_⟩
    · exact blk_set HA.out 0 _
    · refine ⟨Nat.le_trans HB.out.size (by simpa [World.setCell] using HG.out.size), fun k hk h1 h2 => ?_⟩
      rw [Below.heap_setCell _ _ _ _ h1]
      exact (HG.out.block k (Nat.lt_of_lt_of_le hk HB.out.size) h2).trans (HB.out.block k hk)
    · exact HG.out.os.trans HB.out.os
    · exact HG.out.tape.trans HB.out.tape
    · exact HG.out.output.trans HB.out.output
    · have := HW.out
      simp only [List.length_append, List.length_cons, List.length_nil, Nat.zero_add] at this
      rcases this with h1 | ⟨b, h1, h2⟩
      · exact .inl h1
      · exact .inr ⟨b, h1, Nat.le_trans HB.out.size h2⟩)
theorem resJb {w : World} {X : Nat} {a0 a1 : Value} (hb : w.heap[X]? = some (.cells #[a0, a1] 81 (0, 0))) (t u : Tmp) {fn : Func} (tmps : Array Value) (h : fn.results = #[.cell t 81, .tmp u]) (ht : tmps.getD t undef = .pointer (some ⟨X, 0, none⟩)) {r : Value} (hu : tmps.getD u undef = r) : (results fn tmps).run Try.prog w = .ok (.tuple #[.agg #[a0, a1], r]) w := by
  have z0 : w.cell? ⟨X, 0, none⟩ = some a0 := cell_of_row w X 0 _ _ _ hb
  have z1 : w.cell? ⟨X, 1, none⟩ = some a1 := cell_of_row w X 1 _ _ _ hb
  rw [Array.getD_eq_getD_getElem?] at ht hu
  simp [results, h, ht, hu, go_sem, z0, z1]
set_option maxHeartbeats 4000000 in
set_option maxRecDepth 100000 in
theorem atJb (base s : Nat) (v : Value) (xs : List Jb) (w : World) (hl : StkJb base s v xs w) (i : Nat) (x : Jb) (hx : xs[i]? = some x) : Calls Try.prog 91 #[.pointer (some ⟨s, 0, none⟩), .int .i64 i] w fun e w' => e = .returned (.tuple #[VJb x, .bool true]) ∧ Below w.heap.size w w' := by
  have hi : i < xs.length := (List.getElem?_eq_some_iff.1 hx).1
  have hs : w.cell? ⟨s, 0, none⟩ = some v := cell_of_row w s 0 _ _ _ hl.stk
  obtain ⟨A, c, rfl, hlc, hC⟩ := Kd.R_reads hl.row
  obtain ⟨ad, x', rfl, hx', h0, h1⟩ := kJb_at hC i hi
  rw [hx] at hx'
  cases hx'
  obtain ⟨x0, x1⟩ := x
  dsimp only at h0 h1
  show Calls Try.prog 91 #[.pointer (some ⟨s, 0, none⟩), .int .i64 i] w fun e w' => e = .returned (.tuple #[.agg #[.pointer x0, .int .i64 x1], .bool true]) ∧ Below w.heap.size w w'
  have j0 : (0 : Int) ≤ i := by omega
  have j1 : (i : Int) < xs.length := by omega
  have his : ∀ W : World, W.cell? ⟨s, 0, none⟩ = some (.slice (some ad) xs.length c) → Calls Try.prog 98 #[.pointer (some ⟨s, 0, none⟩), .int .i64 i] W fun e w' => e = .returned (.bool true) ∧ w' = W := by
    intro W hW
    go_enter Try.func98, Try.ntmps98
    go_wp2_with fail
    go_ret
    exact ⟨rfl, rfl⟩
  have HC := hide hC
  have HL := hide hl
  have HIS := hide his
  clear hC hl his hx
  go_enter Try.func91, Try.ntmps91
  go_wp2_with fail
  obtain ⟨wX, hX⟩ : ∃ wX, w.alloc (.cells #[.pointer none, .int .i64 0] 81) = wX := ⟨_, rfl⟩
  have hbel : Below w.heap.size w wX := by rw [← hX]; exact below_alloc (Below.refl _ _) _
  have hnew : wX.heap[w.heap.size]? = some (.cells #[.pointer none, .int .i64 0] 81 (0, 0)) := by rw [← hX]; exact heap_alloc_new w _
  rw [hX]
  clear hX
  have xs_ := (hbel.cell (World.block_lt_of_cell? _ _ hs)).trans hs
  have x_0 := (hbel.cell (World.block_lt_of_cell? _ _ h0)).trans h0
  have x_1 := (hbel.cell (World.block_lt_of_cell? _ _ h1)).trans h1
  clear h0 h1 hs
  refine (HIS.out wX xs_).mono ?_
  rintro e w1 ⟨rfl, rfl⟩
  dsimp only
  have z0 := cell_of_row w1 _ 0 _ _ _ hnew
  have f0 := blk_frozen hnew 0
  have z1 := cell_of_row w1 _ 1 _ _ _ hnew
  have f1 := blk_frozen hnew 1
  go_wp2_with fail
  have hfin := (blk_set (blk_set hnew 0 (.pointer x0)) 1 (.int .i64 x1))
  refine ⟨rfl, _, resJb hfin 4 5 _ rfl rfl rfl, rfl, ?_⟩
  exact ((hbel.setCell (Nat.le_refl _) _).setCell (Nat.le_refl _) _)
set_option maxHeartbeats 4000000 in
set_option maxRecDepth 100000 in
theorem atNoneJb (base s : Nat) (v : Value) (w : World) (hl : StkJb base s v [] w) (i : Int) (hi : i = -1) : Calls Try.prog 91 #[.pointer (some ⟨s, 0, none⟩), .int .i64 i] w fun e w' => e = .returned (.tuple #[.agg #[.pointer none, .int .i64 0], .bool false]) ∧ Below w.heap.size w w' := by
  subst hi
  have hs : w.cell? ⟨s, 0, none⟩ = some v := cell_of_row w s 0 _ _ _ hl.stk
  have his : ∀ W : World, Calls Try.prog 98 #[.pointer (some ⟨s, 0, none⟩), .int .i64 (-1)] W fun e w' => e = .returned (.bool false) ∧ w' = W := by
    intro W
    go_enter Try.func98, Try.ntmps98
    go_wp2_with fail
    go_ret
    exact ⟨rfl, rfl⟩
  have HIS := hide his
  clear hl his
  go_enter Try.func91, Try.ntmps91
  go_wp2_with fail
  obtain ⟨wX, hX⟩ : ∃ wX, w.alloc (.cells #[.pointer none, .int .i64 0] 81) = wX := ⟨_, rfl⟩
  have hbel : Below w.heap.size w wX := by rw [← hX]; exact below_alloc (Below.refl _ _) _
  have hnew : wX.heap[w.heap.size]? = some (.cells #[.pointer none, .int .i64 0] 81 (0, 0)) := by rw [← hX]; exact heap_alloc_new w _
  rw [hX]
  clear hX
  refine (HIS.out wX).mono ?_
  rintro e w1 ⟨rfl, rfl⟩
  dsimp only
  have hnew2 : (w1.alloc (.cells #[.pointer none, .int .i64 0] 81)).heap[w.heap.size]? = some (.cells #[.pointer none, .int .i64 0] 81 (0, 0)) := ((below_alloc (Below.refl _ w1) _).block _ (blk_lt hnew)).trans hnew
  have hnew3 : (w1.alloc (.cells #[.pointer none, .int .i64 0] 81)).heap[w1.heap.size]? = some (.cells #[.pointer none, .int .i64 0] 81 (0, 0)) := heap_alloc_new w1 _
  have hbel2 := below_step hbel (below_alloc (Below.refl _ w1) (.cells #[.pointer none, .int .i64 0] 81))
  have hX1 : w1.heap.size = w.heap.size + 1 ∨ True := .inr trivial
  have z0 := cell_of_row _ _ 0 _ _ _ hnew2
  have f0 := blk_frozen hnew2 0
  have q0 := cell_of_row _ _ 0 _ _ _ hnew3
  have z1 := cell_of_row _ _ 1 _ _ _ hnew2
  have f1 := blk_frozen hnew2 1
  have q1 := cell_of_row _ _ 1 _ _ _ hnew3
  go_wp2_with fail
  have hfin := (blk_set (blk_set hnew2 0 (.pointer none)) 1 (.int .i64 0))
  refine ⟨rfl, _, resJb hfin 4 5 _ rfl rfl rfl, rfl, ?_⟩
  exact ((hbel2.setCell (Nat.le_refl _) _).setCell (Nat.le_refl _) _)
set_option maxHeartbeats 4000000 in
set_option maxRecDepth 100000 in
theorem delJb (base g c m : Nat) (xs : List Jb) (hm : xs.length = m + 1) (hmb : m ≤ 1000000000) (w : World) (hr : kJb.R 81 w base (fun _ => True) (.slice (some ⟨g, 0, none⟩) (m + 1) c) xs) (hb : base ≤ w.heap.size) :
    Calls Try.prog 92 #[.slice (some ⟨g, 0, none⟩) (m + 1) c, .int .i64 m, .int .i64 ((m : Int) + 1)] w fun e w' => e = .returned (.slice (some ⟨g, 0, none⟩) m c) ∧ kJb.R 81 w' base (fun _ => True) (.slice (some ⟨g, 0, none⟩) m c) (xs.take m) ∧ w.grownBy w' (some g) := by
  have hcm := (Kd.R_reads' hr).2.1
  have hlt := Kd.R_lt hr g rfl
  have hbg := Kd.R_base hr g rfl
  have hce : ¬ c = m := by omega
  have hz : ∀ W, (zeroValue 81).run Try.prog W = .ok (.agg #[.pointer none, .int .i64 0]) W := fun W => by
    have h := info81
    obtain ⟨i0, hi, hzz⟩ := Option.map_eq_some_iff.1 h
    simp only [Prod.mk.injEq] at hzz
    simp [zeroValue, typeInfo, hi, hzz.1]
  have HR := hide (Kd.R_drewN hr 1)
  have HR1 := hide hr
  have HZ := hide hz
  have HLT := hide hlt
  have HBG := hide hbg
  clear hr hz
  go_enter Try.func92, Try.ntmps92
  obtain ⟨i1, hi1, hs1⟩ : ∃ i, Try.prog.info? 81 = some i ∧ i.size = 2 := by
    obtain ⟨i0, hi, hzz⟩ := Option.map_eq_some_iff.1 info81
    simp only [Prod.mk.injEq] at hzz
    exact ⟨i0, hi, hzz.2.1⟩
  have q1 := cut_to (P := Try.prog) 107 81 .i64 Try.underlying107 hi1 (some ⟨g, 0, none⟩) (m + 1) c (m : Int) (by omega) (by omega) hcm
  rw [Int.toNat_natCast] at q1
  have q2 := cut_from (P := Try.prog) 107 81 .i64 Try.underlying107 hi1 2 hs1 (some ⟨g, 0, none⟩) (m + 1) c ((m : Int) + 1) (by omega) (by omega)
  rw [show ((m : Int) + 1).toNat = m + 1 from by omega, Nat.sub_self] at q2
  obtain ⟨AA, hAA⟩ : ∃ AA, (if c = m + 1 then some ⟨g, 0, none⟩ else (some (⟨g, 0, none⟩ : Addr)).map (·.add ((m + 1) * 2))) = AA := ⟨_, rfl⟩
  rw [hAA] at q2
  have HAA := hide hAA
  clear hAA
  have q3 := cut_mid' (P := Try.prog) 107 81 .i64 .i64 Try.underlying107 hi1 2 hs1 (some ⟨g, 0, none⟩) m c (m : Int) ((m : Int) + 1) (by omega) (by omega) (by omega)
  rw [show ((m : Int) + 1).toNat = m + 1 from by omega, Int.toNat_natCast, if_neg hce, show m + 1 - m = 1 from by omega, Option.map_some, add0] at q3
  go_wp2_with fail
  go_region_law (first | (refine Kd.R_delete_step kJb (w0 := w) base rfl (.tmp 22) (.tmp 25) 107 81 rfl Try.underlying107 (by rw [hi1, Option.map_some, hs1]; rfl) (g := g) (n := m + 1) (c := c) (k := m) (xs := xs) (ok := fun _ => True) rfl rfl HAA.out.symm (by omega) HR.out (by omega) (pw_below_drewN (Below.refl _ _) 1) hb ?_; intro w1 ho hb2 hg; have HO := hide ho; have HG := hide hg; clear ho hb2 hg))
  all_goals (
    have hO := HO.out
    rw [Nat.add_sub_cancel] at hO
    obtain ⟨hc1, hc2, hc3, hc4⟩ := R_clear kJb hO (by omega) [.pointer none, .int .i64 0] rfl
    have hrun := fun ty => run_clear1 (P := Try.prog) w1 107 81 ty (.agg #[.pointer none, .int .i64 0]) [.pointer none, .int .i64 0] Try.underlying107 HZ.out (by kernel_rfl) (by simp [Value.oneCell']) g (m * 2) (c - m) hc3 hc4
    have HRUN := hide hrun
    have HC1 := hide hc1
    have HC2 := hide hc2
    clear hc1 hc2 hc3 hc4 hrun hO
    have hR0 := HRUN.out 0
    go_wp2_with fail
    go_ret
    refine ⟨rfl, ?_, ?_⟩
    · have h := HC1.out
      rw [List.eraseIdx_eq_take_drop_succ, List.drop_eq_nil_of_le (by omega), List.append_nil] at h
      exact h
    · exact World.grownBy.trans (World.grownBy.trans (show w.grownBy (w.drewN 1) (some g) from ⟨rfl, rfl, rfl, Nat.le_refl _, fun _ _ _ => rfl⟩) HG.out) HC2.out)
set_option maxHeartbeats 4000000 in
set_option maxRecDepth 100000 in
theorem cutJb (base s : Nat) (v : Value) (xs : List Jb) (m : Nat) (x : Jb) (w : World) (hl : StkJb base s v xs w) (hm : xs.length = m + 1) (hx : xs[m]? = some x) (hmb : m ≤ 1000000000) :
    Calls Try.prog 79 #[.pointer (some ⟨s, 0, none⟩), .int .i64 m] w fun e w' => e = .returned (.tuple #[VJb x, .bool true]) ∧ ∃ v1, StkJb base s v1 (xs.take m) w' ∧ Push_ w w' s v v1 := by
  have hlw := hl
  obtain ⟨hs, hr, hbs⟩ := hl
  obtain ⟨g, c, rfl, hbg, hgl, cg, hcg⟩ := Kd.R_form hr (by omega)
  rw [hm] at hr hs hlw ⊢
  have hsg : s ≠ g := fun e => Kd.R_ne hr hs (by decide) (by rw [e]; rfl)
  have HL := hide hlw
  have HX := hide hx
  clear hlw hx hcg hm
  obtain ⟨x0, x1⟩ := x
  show Calls Try.prog 79 #[.pointer (some ⟨s, 0, none⟩), .int .i64 m] w fun e w' => e = .returned (.tuple #[.agg #[.pointer x0, .int .i64 x1], .bool true]) ∧ ∃ v1, StkJb base s v1 (xs.take m) w' ∧ Push_ w w' s (.slice (some ⟨g, 0, none⟩) (m + 1) c) v1
  go_enter Try.func79, Try.ntmps79
  go_wp2_with fail
  obtain ⟨wX, hX⟩ : ∃ wX, w.alloc (.cells #[.pointer none, .int .i64 0] 81) = wX := ⟨_, rfl⟩
  have hbel : Below w.heap.size w wX := by rw [← hX]; exact below_alloc (Below.refl _ _) _
  have hnew : wX.heap[w.heap.size]? = some (.cells #[.pointer none, .int .i64 0] 81 (0, 0)) := by rw [← hX]; exact heap_alloc_new w _
  rw [hX]
  clear hX
  refine (atJb base s _ xs wX (HL.out.below hbel) m ⟨x0, x1⟩ HX.out).mono ?_
  rintro e w1 ⟨rfl, hb1⟩
  dsimp only
  have hb01 := below_step hbel hb1
  have hnew1 := (hb1.block _ (blk_lt hnew)).trans hnew
  have H46 := hide (Nat.lt_of_lt_of_le (blk_lt hnew) hb1.size)
  obtain ⟨hs1, hr1, _⟩ := (HL.out.below hbel).below hb1
  have hba := below_alloc (Below.refl w1.heap.size w1) (.cells #[.pointer x0, .int .i64 x1] 81)
  have hs2 := (hba.block _ (blk_lt hs1)).trans hs1
  have sc : (w1.alloc (.cells #[.pointer x0, .int .i64 x1] 81)).cell? ⟨s, 0, none⟩ = _ := cell_of_row _ _ 0 _ _ _ hs2
  have hx6 := heap_alloc_new w1 (.cells #[.pointer x0, .int .i64 x1] 81)
  have hx4 := (hba.block _ (blk_lt hnew1)).trans hnew1
  have hr2 := Kd.R_below hr1 hba
  have hb02 := below_step hb01 hba
  have HS2 := hide hs2
  have HX6 := hide hx6
  have HX4 := hide hx4
  have HR2 := hide hr2
  have HB2 := hide hb02
  have HML := hide (show xs.length = m + 1 from by have := (Kd.R_reads' hr).1; omega)
  have HS1 := hide (Nat.lt_of_lt_of_le hgl hb01.size)
  have HBS := hide (Nat.le_trans hbs (Nat.le_trans (Nat.le_of_lt (blk_lt hs1)) hba.size))
  clear hs hr hs1 hr1 hba hs2 hx6 hx4 hr2 hb02 hb01 hb1 hnew hnew1 hbel
  go_wp2_with fail
  refine (delJb base g c m xs HML.out hmb _ HR2.out HBS.out).mono ?_
  rintro e w3 ⟨rfl, hr3, hg3⟩
  dsimp only
  have hs3 := (hg3.block s (blk_lt HS2.out) (fun e => hsg (Option.some.inj e))).trans HS2.out
  have h63 := (hg3.block _ (blk_lt HX6.out) (fun e => by have := Option.some.inj e; have := HS1.out; omega)).trans HX6.out
  have h43 := (hg3.block _ (blk_lt HX4.out) (fun e => by have := Option.some.inj e; omega)).trans HX4.out
  have hs6 : w1.heap.size ≠ s := fun e => by
    rw [e] at h63
    rw [h63] at hs3
    injection hs3 with hs3
    injection hs3 with _ hs3
    exact absurd hs3 (by decide)
  have hs4 : w.heap.size ≠ s := fun e => by
    rw [e] at h43
    rw [h43] at hs3
    injection hs3 with hs3
    injection hs3 with _ hs3
    exact absurd hs3 (by decide)
  have h46 : w.heap.size < w1.heap.size := H46.out
  have s0 : w3.cell? ⟨s, 0, none⟩ = _ := cell_of_row _ _ 0 _ _ _ hs3
  have s1 := blk_frozen hs3 0
  have h65 : (w3.setCell ⟨s, 0, none⟩ (.slice (some ⟨g, 0, none⟩) m c)).heap[w1.heap.size]? = _ := (Below.heap_setCell _ _ _ _ hs6).trans h63
  have h45 : (w3.setCell ⟨s, 0, none⟩ (.slice (some ⟨g, 0, none⟩) m c)).heap[w.heap.size]? = _ := (Below.heap_setCell _ _ _ _ hs4).trans h43
  have az0 := cell_of_row _ _ 0 _ _ _ h65
  have af0 := blk_frozen h65 0
  have az1 := cell_of_row _ _ 1 _ _ _ h65
  have af1 := blk_frozen h65 1
  have bz0 := cell_of_row _ _ 0 _ _ _ h45
  have bf0 := blk_frozen h45 0
  have bz1 := cell_of_row _ _ 1 _ _ _ h45
  have bf1 := blk_frozen h45 1
  have HS3 := hide hs3
  have H45 := hide h45
  have HR3 := hide hr3
  have HG3 := hide hg3
  clear hs3 h63 h43 h65 h45 hr3 hg3
  go_wp2_with fail
  have hfin := (blk_set (blk_set H45.out 0 (.pointer x0)) 1 (.int .i64 x1))
  refine ⟨rfl, _, resJb hfin 4 5 _ rfl rfl rfl, rfl, .slice (some ⟨g, 0, none⟩) m c, ⟨?_, ?_, hbs⟩, ?_⟩
  · exact (Below.heap_setCell _ _ _ _ (Ne.symm hs4)).trans ((Below.heap_setCell _ _ _ _ (Ne.symm hs4)).trans (blk_set HS3.out 0 _))
  · refine Kd.R_mono (ok := fun k => some k = (Value.slice (some ⟨g, 0, none⟩) m c).ownBlock) ?_ (fun _ _ => trivial)
    have h0 := Kd.R_tight rfl (Kd.R_set HR3.out HS3.out (by decide) 0 (.slice (some ⟨g, 0, none⟩) m c))
    exact (Kd.R_far (Kd.R_far h0 (fun k hk => by have h1 : some k = some g := hk; injection h1 with h1; show k ≠ w.heap.size; omega) _) (fun k hk => by have h1 : some k = some g := hk; injection h1 with h1; show k ≠ w.heap.size; omega) _)
  · have h0 : Push_ w (w3.setCell ⟨s, 0, none⟩ (.slice (some ⟨g, 0, none⟩) m c)) s (.slice (some ⟨g, 0, none⟩) (m + 1) c) (.slice (some ⟨g, 0, none⟩) m c) := Push_.mk' (v := .slice (some ⟨g, 0, none⟩) (m + 1) c) (v1 := .slice (some ⟨g, 0, none⟩) m c) HB2.out HG3.out rfl _
    exact ((h0.far (Nat.le_refl _) _ _).far (Nat.le_refl _) _ _)
set_option maxHeartbeats 4000000 in
set_option maxRecDepth 100000 in
theorem cutNoneJb (base s : Nat) (v : Value) (w : World) (hl : StkJb base s v [] w) : Calls Try.prog 79 #[.pointer (some ⟨s, 0, none⟩), .int .i64 (-1)] w fun e w' => e = .returned (.tuple #[.agg #[.pointer none, .int .i64 0], .bool false]) ∧ Below w.heap.size w w' := by
  have HL := hide hl
  clear hl
  go_enter Try.func79, Try.ntmps79
  go_wp2_with fail
  obtain ⟨wX, hX⟩ : ∃ wX, w.alloc (.cells #[.pointer none, .int .i64 0] 81) = wX := ⟨_, rfl⟩
  have hbel : Below w.heap.size w wX := by rw [← hX]; exact below_alloc (Below.refl _ _) _
  have hnew : wX.heap[w.heap.size]? = some (.cells #[.pointer none, .int .i64 0] 81 (0, 0)) := by rw [← hX]; exact heap_alloc_new w _
  rw [hX]
  clear hX
  refine (atNoneJb base s _ wX (HL.out.below hbel) (-1) rfl).mono ?_
  rintro e w1 ⟨rfl, hb1⟩
  dsimp only
  have hb01 := below_step hbel hb1
  have hnew1 := (hb1.block _ (blk_lt hnew)).trans hnew
  have hba := below_alloc (Below.refl w1.heap.size w1) (.cells #[.pointer none, .int .i64 0] 81)
  have hx6 := heap_alloc_new w1 (.cells #[.pointer none, .int .i64 0] 81)
  have hx4 := (hba.block _ (blk_lt hnew1)).trans hnew1
  have hb02 := below_step hb01 hba
  clear hnew hbel hb1 hb01 hba hnew1
  have az0 := cell_of_row _ _ 0 _ _ _ hx6
  have af0 := blk_frozen hx6 0
  have az1 := cell_of_row _ _ 1 _ _ _ hx6
  have af1 := blk_frozen hx6 1
  have bz0 := cell_of_row _ _ 0 _ _ _ hx4
  have bf0 := blk_frozen hx4 0
  have bz1 := cell_of_row _ _ 1 _ _ _ hx4
  have bf1 := blk_frozen hx4 1
  go_wp2_with fail
  have hfin := (blk_set (blk_set hx4 0 (.pointer none)) 1 (.int .i64 0))
  refine ⟨rfl, _, resJb hfin 4 5 _ rfl rfl rfl, rfl, ?_⟩
  exact ((hb02.setCell (Nat.le_refl _) _).setCell (Nat.le_refl _) _)
set_option maxHeartbeats 4000000 in
set_option maxRecDepth 100000 in
theorem popJb (base s : Nat) (v : Value) (xs : List Jb) (x : Jb) (w : World) (hl : StkJb base s v (xs ++ [x]) w) (hmb : xs.length ≤ 1000000000) :
    Calls Try.prog 50 #[.pointer (some ⟨s, 0, none⟩)] w fun e w' => e = .returned (.tuple #[VJb x, .bool true]) ∧ ∃ v1, StkJb base s v1 xs w' ∧ Push_ w w' s v v1 := by
  obtain ⟨A, c, rfl⟩ := Kd.R_slice hl.row
  obtain ⟨m, hm⟩ : ∃ m, xs.length = m := ⟨_, rfl⟩
  have hl1 : (xs ++ [x]).length = m + 1 := by simp [hm]
  have hx : (xs ++ [x])[m]? = some x := by rw [List.getElem?_append_right (by omega), hm, Nat.sub_self]; rfl
  have htk : (xs ++ [x]).take m = xs := by rw [← hm]; simp
  have hbel : Below w.heap.size w (w.alloc (.cells #[.pointer none, .int .i64 0] 81)) := below_alloc (Below.refl _ _) _
  have hl2 := hl.below hbel
  have sc : (w.alloc (.cells #[.pointer none, .int .i64 0] 81)).cell? ⟨s, 0, none⟩ = _ := cell_of_row _ _ 0 _ _ _ hl2.stk
  have hnew := heap_alloc_new w (.cells #[.pointer none, .int .i64 0] 81)
  rw [hl1] at sc hl2 hl ⊢
  have HCUT := hide (cutJb base s _ (xs ++ [x]) m x _ hl2 hl1 hx (by omega))
  rw [htk] at HCUT
  have HN := hide hnew
  have HB := hide hbel
  have HSL := hide (blk_lt hl.stk)
  have HBV := hide (Kd.R_lt hl.row)
  have HST := hide hl.stk
  have hmi : ((m : Int) + 1 - 1) = m := by omega
  clear hl hl2 hx htk hnew hbel
  obtain ⟨x0, x1⟩ := x
  show Calls Try.prog 50 #[.pointer (some ⟨s, 0, none⟩)] w fun e w' => e = .returned (.tuple #[.agg #[.pointer x0, .int .i64 x1], .bool true]) ∧ ∃ v1, StkJb base s v1 xs w' ∧ Push_ w w' s (.slice A (m + 1) c) v1
  go_enter Try.func50, Try.ntmps50
  go_wp2_with fail
  refine HCUT.out.mono ?_
  rintro e w1 ⟨rfl, v1, hl1, hp⟩
  dsimp only
  have hXs : w.heap.size ≠ s := fun e => by have := HSL.out; omega
  have hX : w1.heap[w.heap.size]? = some (.cells #[.pointer none, .int .i64 0] 81 (0, 0)) := (hp.keep.2 _ (blk_lt HN.out) hXs (fun e => by have := HBV.out _ e.symm; omega)).trans HN.out
  have bz0 := cell_of_row _ _ 0 _ _ _ hX
  have bf0 := blk_frozen hX 0
  have bz1 := cell_of_row _ _ 1 _ _ _ hX
  have bf1 := blk_frozen hX 1
  have HL1 := hide hl1
  have HP := hide (Push_.after HB.out hp)
  have HOWN := hide hp.own
  have HXB := hide hX
  clear hl1 hp hX
  go_wp2_with fail
  have hfin := (blk_set (blk_set HXB.out 0 (.pointer x0)) 1 (.int .i64 x1))
  refine ⟨rfl, _, resJb hfin 2 3 _ rfl rfl rfl, rfl, v1, ⟨?_, ?_, HL1.out.bs⟩, ?_⟩
  · exact ((Below.heap_setCell _ _ _ _ (Ne.symm hXs)).trans ((Below.heap_setCell _ _ _ _ (Ne.symm hXs)).trans HL1.out.stk))
  · refine Kd.R_mono (ok := fun k => some k = v1.ownBlock) ?_ (fun _ _ => trivial)
    have h0 := Kd.R_tight rfl HL1.out.row
    have hne : ∀ k, some k = v1.ownBlock → k ≠ w.heap.size := fun k hk e => by
      subst e
      rcases HP.out.own with h | ⟨b, h, hb⟩
      · have := HBV.out _ (h.symm.trans hk.symm); omega
      · have hp2 := HOWN.out
        rcases hp2 with h2 | ⟨b2, h2, hb2⟩
        · have := HBV.out _ (h2.symm.trans hk.symm); omega
        · rw [h2] at hk; injection hk with hk; have h9 : (w.alloc (.cells #[.pointer none, .int .i64 0] 81)).heap.size = w.heap.size + 1 := by simp
          omega
    exact (Kd.R_far (Kd.R_far h0 hne _) hne _)
  · exact ((HP.out.far (Nat.le_refl _) _ _).far (Nat.le_refl _) _ _)
set_option maxHeartbeats 4000000 in
set_option maxRecDepth 100000 in
theorem popNoneJb (base s : Nat) (v : Value) (w : World) (hl : StkJb base s v [] w) : Calls Try.prog 50 #[.pointer (some ⟨s, 0, none⟩)] w fun e w' => e = .returned (.tuple #[.agg #[.pointer none, .int .i64 0], .bool false]) ∧ Below w.heap.size w w' := by
  obtain ⟨A, c, rfl⟩ := Kd.R_slice hl.row
  have hbel : Below w.heap.size w (w.alloc (.cells #[.pointer none, .int .i64 0] 81)) := below_alloc (Below.refl _ _) _
  have hl2 := hl.below hbel
  have sc : (w.alloc (.cells #[.pointer none, .int .i64 0] 81)).cell? ⟨s, 0, none⟩ = _ := cell_of_row _ _ 0 _ _ _ hl2.stk
  have hnew := heap_alloc_new w (.cells #[.pointer none, .int .i64 0] 81)
  have HCUT := hide (cutNoneJb base s _ _ hl2)
  have HN := hide hnew
  have HB := hide hbel
  clear hl hl2 hnew hbel
  rw [List.length_nil] at sc
  go_enter Try.func50, Try.ntmps50
  go_wp2_with fail
  refine HCUT.out.mono ?_
  rintro e w1 ⟨rfl, hb⟩
  dsimp only
  have hX : w1.heap[w.heap.size]? = some (.cells #[.pointer none, .int .i64 0] 81 (0, 0)) := (hb.block _ (blk_lt HN.out)).trans HN.out
  have hb1 := below_step HB.out hb
  have bz0 := cell_of_row _ _ 0 _ _ _ hX
  have bf0 := blk_frozen hX 0
  have bz1 := cell_of_row _ _ 1 _ _ _ hX
  have bf1 := blk_frozen hX 1
  clear hb
  go_wp2_with fail
  have hfin := (blk_set (blk_set hX 0 (.pointer none)) 1 (.int .i64 0))
  refine ⟨rfl, _, resJb hfin 2 3 _ rfl rfl rfl, rfl, ?_⟩
  exact ((hb1.setCell (Nat.le_refl _) _).setCell (Nat.le_refl _) _)
end Go.Proofs.Ytjebpaapkmbahaa.Ar
