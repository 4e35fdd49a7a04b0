/- The walk of the law CompareNumbers: it is true. -/
import Derived.Test.YteglfgmgpbablaaDoorCmpNumP
import Derived.Test.YteglfgmgpbablaaDoorCmpEq
namespace Go.Proofs.YteglfgmgpbablaaDoor.Cmp
open Go.RowKit Go.Proofs.YteglfgmgpbablaaDoor.PCompareTells Go.Proofs.YteglfgmgpbablaaDoorW.PrintWords Go.Proofs.YteglfgmgpbablaaDoorW.PrintLast
set_option linter.unusedVariables false
set_option linter.unusedSimpArgs false
theorem four_nodes {w : World} {g : Nat} {ty : TypeId} {fr : Nat × Nat} (h : w.heap[g]? = some (.cells #[.int .i64 3, .int .i64 4, .int .i64 0, .bool false, .string ⟨#[]⟩, .slice none 0 0, .int .i64 3, .int .i64 1, .int .i64 0, .bool false, .string ⟨#[]⟩, .slice none 0 0, .int .i64 1, .int .i64 0, .int .i64 0, .bool false, .string ⟨#[116]⟩, .slice none 0 0, .int .i64 0, .int .i64 0, .int .i64 1, .bool false, .string ⟨#[99]⟩, .slice none 0 0] ty fr)) : k45.C w (some ⟨g, 0, none⟩) 4 numN := by
  have hk : ∀ (n0 n1 n2 : Int) (b : Bool) (s : ByteArray), k45.K w ⟨n0, n1, n2, b, s, []⟩ [.int .i64 n0, .int .i64 n1, .int .i64 n2, .bool b, .string s, .slice none 0 0] := fun n0 n1 n2 b s => k45_mk w ⟨n0, n1, n2, b, s, []⟩ (Nat.le_refl 0) (Kd.C_nil _ _)
  refine ⟨rfl, by decide, fun _ => ⟨_, rfl, fun j x hj => ?_⟩⟩
  match j, hj with
  | 0, hj =>
    cases hj
    refine ⟨_, rfl, hk _ _ _ _ _, fun i u hu => ?_⟩
    rw [add0, cell_of_row w g _ _ _ _ h]
    match i, hu with
    | 0, hu => rw [← hu]; rfl
    | 1, hu => rw [← hu]; rfl
    | 2, hu => rw [← hu]; rfl
    | 3, hu => rw [← hu]; rfl
    | 4, hu => rw [← hu]; rfl
    | 5, hu => rw [← hu]; rfl
  | 1, hj =>
    cases hj
    refine ⟨_, rfl, hk _ _ _ _ _, fun i u hu => ?_⟩
    rw [add0, cell_of_row w g _ _ _ _ h]
    match i, hu with
    | 0, hu => rw [← hu]; rfl
    | 1, hu => rw [← hu]; rfl
    | 2, hu => rw [← hu]; rfl
    | 3, hu => rw [← hu]; rfl
    | 4, hu => rw [← hu]; rfl
    | 5, hu => rw [← hu]; rfl
  | 2, hj =>
    cases hj
    refine ⟨_, rfl, hk _ _ _ _ _, fun i u hu => ?_⟩
    rw [add0, cell_of_row w g _ _ _ _ h]
    match i, hu with
    | 0, hu => rw [← hu]; rfl
    | 1, hu => rw [← hu]; rfl
    | 2, hu => rw [← hu]; rfl
    | 3, hu => rw [← hu]; rfl
    | 4, hu => rw [← hu]; rfl
    | 5, hu => rw [← hu]; rfl
  | 3, hj =>
    cases hj
    refine ⟨_, rfl, hk _ _ _ _ _, fun i u hu => ?_⟩
    rw [add0, cell_of_row w g _ _ _ _ h]
    match i, hu with
    | 0, hu => rw [← hu]; rfl
    | 1, hu => rw [← hu]; rfl
    | 2, hu => rw [← hu]; rfl
    | 3, hu => rw [← hu]; rfl
    | 4, hu => rw [← hu]; rfl
    | 5, hu => rw [← hu]; rfl
/-- What 'grow' makes of the four. -/
def Grown4 (w : World) (e : Ending) (w' : World) : Prop := ∃ (A3 : Option Addr) (c3 g c5 : Nat), e = .returned (.agg #[.int .i64 1, .int .i64 0, .string ⟨#[]⟩, .slice A3 0 c3, .string ⟨#[]⟩, .slice (some ⟨g, 0, none⟩) 1 c5]) ∧ TF w' (fun k => k < w'.heap.size) (.agg #[.int .i64 1, .int .i64 0, .string ⟨#[]⟩, .slice A3 0 c3, .string ⟨#[]⟩, .slice (some ⟨g, 0, none⟩) 1 c5]) (docN [numK]) ∧ (∀ W, Below w'.heap.size w' W → ∀ X, w'.heap.size ≤ X → W.heap[X]? = some (.cells #[.int .i64 1, .int .i64 0, .string ⟨#[]⟩, .slice A3 0 c3, .string ⟨#[]⟩, .slice (some ⟨g, 0, none⟩) 1 c5] 26 (0, 0)) → Ow w.heap.size X A3 c3 g c5 W) ∧ w.heap.size ≤ g ∧ Below w.heap.size w w'
theorem grow4 (w : World) : Calls Tryd.prog 8 #[.slice (some ⟨w.heap.size, 0, none⟩) 4 4] (w.alloc (.cells #[.int .i64 3, .int .i64 4, .int .i64 0, .bool false, .string ⟨#[]⟩, .slice none 0 0, .int .i64 3, .int .i64 1, .int .i64 0, .bool false, .string ⟨#[]⟩, .slice none 0 0, .int .i64 1, .int .i64 0, .int .i64 0, .bool false, .string ⟨#[116]⟩, .slice none 0 0, .int .i64 0, .int .i64 0, .int .i64 1, .bool false, .string ⟨#[99]⟩, .slice none 0 0] 45)) (Grown4 w) :=
  (growO numN (by decide) (by decide) num_deep _ 4 _ (four_nodes (heap_alloc_new w _)) (Nat.le_refl 4)).mono fun e w' ⟨v, he, ht, ho, hb⟩ => by
    rw [num_grow] at ht ho
    have hs : (w.alloc (.cells #[.int .i64 3, .int .i64 4, .int .i64 0, .bool false, .string ⟨#[]⟩, .slice none 0 0, .int .i64 3, .int .i64 1, .int .i64 0, .bool false, .string ⟨#[]⟩, .slice none 0 0, .int .i64 1, .int .i64 0, .int .i64 0, .bool false, .string ⟨#[116]⟩, .slice none 0 0, .int .i64 0, .int .i64 0, .int .i64 1, .bool false, .string ⟨#[99]⟩, .slice none 0 0] 45)).heap.size = w.heap.size + 1 := by simp
    obtain ⟨A3, c3, g, c5, hv, hg, hgl, hW⟩ := Ow.mk' (ho.lower (N' := w.heap.size) (by rw [hs]; omega) (fun k hk => hk.elim))
    subst hv
    exact ⟨A3, c3, g, c5, he, ht.bound.mono (fun k hk => hk.2), hW, hg, below_step (below_alloc (Below.refl w.heap.size w) _) hb⟩
/-- The case's end. -/
def NumE (X : Nat) (wr wx : World) : Prop := NumX X wx ∧ Below wr.heap.size wr wx
theorem num_al : AL 6 (docN [numK]) ∧ W (docN [numK]) ≤ 101 := ⟨by simp [docN, numK, numKK, AL, ALK], by simp [docN, numK, numKK, W, WK]⟩
theorem num_alB : AL 100000000 (docN [numK]) := by simp [docN, numK, numKK, AL, ALK]
theorem at_one (A3 : Option Addr) (c3 h d5 : Nat) (p : Int) (hp : p = 9 ∨ p = -1) (W : World) (ok : Nat → Prop) (ht : TF W ok (.agg #[.int .i64 1, .int .i64 0, .string ⟨#[]⟩, .slice A3 0 c3, .string ⟨#[]⟩, .slice (some ⟨h, 0, none⟩) 1 d5]) (docN [numK])) :
    Calls Tryd.prog 15 #[.agg #[.int .i64 1, .int .i64 0, .string ⟨#[]⟩, .slice A3 0 c3, .string ⟨#[]⟩, .slice (some ⟨h, 0, none⟩) 1 d5], .slice (some ⟨W.heap.size, 0, none⟩) 1 1] (W.alloc (.cells #[.int .i64 p] 3)) fun e w' => ∃ (Z3 : Option Addr) (z3 : Nat) (Z5 : Option Addr) (z5 : Nat), e = .returned (.tuple #[.agg #[.int .i64 0, .int .i64 0, .string ⟨#[]⟩, .slice Z3 0 z3, .string ⟨#[]⟩, .slice Z5 0 z5], .bool false]) ∧ Below W.heap.size W w' := by
  have hb := below_alloc (Below.refl W.heap.size W) (.cells #[.int .i64 p] 3)
  have hC : kI.C (W.alloc (.cells #[.int .i64 p] 3)) (some ⟨W.heap.size, 0, none⟩) [p].length [p] := by
    refine ⟨rfl, by simp, fun _ => ⟨_, rfl, fun j q hj => ?_⟩⟩
    match j, hj with
    | 0, hj =>
      cases hj
      refine ⟨[.int .i64 p], rfl, rfl, fun i u hu => ?_⟩
      match i, hu with
      | 0, hu =>
        rw [← hu, add0, cell_of_row _ _ _ _ _ _ (heap_alloc_new W _)]
        rfl
  have hn : atL [p] (docN [numK]) = none := by
    have h1 : (docN [numK]).f5.length = 1 := rfl
    rw [atL, if_neg (by rw [h1]; omega)]
  have h := at_ (docN [numK]) _ (some ⟨W.heap.size, 0, none⟩) 1 [p] _ ok (ht.below hb) hC (by have := num_al.2; omega) num_alB
  rw [hn] at h
  refine h.mono fun e w' ⟨v, he, hv, hbw⟩ => ?_
  obtain ⟨Z3, z3, Z5, z5, e2, _⟩ := hv.open_
  exact ⟨Z3, z3, Z5, z5, by rw [he, e2]; rfl, below_step hb hbw⟩
theorem at_nil (A3 : Option Addr) (c3 h d5 : Nat) (W : World) (ok : Nat → Prop) (ht : TF W ok (.agg #[.int .i64 1, .int .i64 0, .string ⟨#[]⟩, .slice A3 0 c3, .string ⟨#[]⟩, .slice (some ⟨h, 0, none⟩) 1 d5]) (docN [numK])) :
    Calls Tryd.prog 15 #[.agg #[.int .i64 1, .int .i64 0, .string ⟨#[]⟩, .slice A3 0 c3, .string ⟨#[]⟩, .slice (some ⟨h, 0, none⟩) 1 d5], .slice none 0 0] W fun e w' => ∃ (Z3 : Option Addr) (z3 : Nat) (Z5 : Option Addr) (z5 : Nat), e = .returned (.tuple #[.agg #[.int .i64 1, .int .i64 0, .string ⟨#[]⟩, .slice Z3 0 z3, .string ⟨#[]⟩, .slice Z5 1 z5], .bool true]) ∧ TV w' (.agg #[.int .i64 1, .int .i64 0, .string ⟨#[]⟩, .slice Z3 0 z3, .string ⟨#[]⟩, .slice Z5 1 z5]) (docN [numK]) ∧ Below W.heap.size W w' := by
  have h := at_ (docN [numK]) _ none 0 [] _ ok ht (Kd.C_nil _ _) (by have := num_al.2; omega) num_alB
  have hn : atL [] (docN [numK]) = some (docN [numK]) := rfl
  rw [hn] at h
  refine h.mono fun e w' ⟨v, he, hv, hbw⟩ => ?_
  obtain ⟨Z3, z3, Z5, z5, e2, _⟩ := hv.open_
  subst e2
  exact ⟨Z3, z3, Z5, z5, he, hv.now, hbw⟩
theorem num_eqT : eqT (docN [numK]) (docN [numK]) = true := by kernel_rfl
set_option maxHeartbeats 20000000 in
set_option maxRecDepth 100000 in
theorem numbers (w : World) : Calls Tryd.prog 6 #[] w fun e w' => e = .returned (.bool true) ∧ Below w.heap.size w w' := by
  have HG := hide (fun w => grow4 w)
  go_enter Tryd.func6, Tryd.ntmps6
  go_upto_region 2 with (go_at_call 8; (with_reducible refine (HG.out w).mono ?_); rintro e wa ⟨B3, d3, h, d5, rfl, hT, -, -, hB⟩; have HTa := hide hT; have HBa := hide hB; clear hT hB)
  have bx := below_alloc (Below.refl wa.heap.size wa) (.cells #[.int .i64 1, .int .i64 0, .string ⟨#[]⟩, .slice B3 0 d3, .string ⟨#[]⟩, .slice (some ⟨h, 0, none⟩) 1 d5] 26)
  have hX1 := heap_alloc_new wa (.cells #[.int .i64 1, .int .i64 0, .string ⟨#[]⟩, .slice B3 0 d3, .string ⟨#[]⟩, .slice (some ⟨h, 0, none⟩) 1 d5] 26)
  have HT1 := hide (HTa.out.below bx)
  have HB1 := hide (below_step HBa.out bx)
  have hX1s : wa.heap.size < (wa.alloc (.cells #[.int .i64 1, .int .i64 0, .string ⟨#[]⟩, .slice B3 0 d3, .string ⟨#[]⟩, .slice (some ⟨h, 0, none⟩) 1 d5] 26)).heap.size := by simp
  obtain ⟨w1, hw1⟩ : ∃ w1, wa.alloc (.cells #[.int .i64 1, .int .i64 0, .string ⟨#[]⟩, .slice B3 0 d3, .string ⟨#[]⟩, .slice (some ⟨h, 0, none⟩) 1 d5] 26) = w1 := ⟨_, rfl⟩
  rw [hw1] at hX1 HT1 HB1 hX1s ⊢
  obtain ⟨X1, hX⟩ : ∃ X, wa.heap.size = X := ⟨_, rfl⟩
  rw [hX] at hX1 HT1 hX1s ⊢
  have HX1 := hide hX1
  have HX1s := hide hX1s
  clear hw1 bx HTa HBa hX hX1 hX1s
  go_wp2_with fail
  go_loopw [2] (fun i wr => ∃ n : Nat, n ≤ 9 ∧ i = .int .i64 (n : Int) ∧ Aside0 (Below w1.heap.size w1 wr)) (fun i _ => 9 - (intOf i).toNat)
  case atStart => exact ⟨0, by decide, rfl, ⟨Below.refl _ _⟩⟩
  case round =>
    obtain ⟨n, hn9, rfl, hB⟩ := hrel
    have HBr := hide hB.out
    clear hB
    by_cases hlt : n < 9
    · have hn1 : (n : Int) < 9 := by omega
      go_upto_region 6 with (go_at_call 8; (with_reducible refine (HG.out wr).mono ?_); rintro e wa ⟨A3, c3, g, c5, rfl, -, hO, hg, hB⟩; have HO := hide hO; have HBa := hide hB; have HGG := hide hg; clear hO hB hg)
      have bx := below_alloc (Below.refl wa.heap.size wa) (.cells #[.int .i64 1, .int .i64 0, .string ⟨#[]⟩, .slice A3 0 c3, .string ⟨#[]⟩, .slice (some ⟨g, 0, none⟩) 1 c5] 26)
      have hX3 := heap_alloc_new wa (.cells #[.int .i64 1, .int .i64 0, .string ⟨#[]⟩, .slice A3 0 c3, .string ⟨#[]⟩, .slice (some ⟨g, 0, none⟩) 1 c5] 26)
      have hOw := HO.out _ bx wa.heap.size (Nat.le_refl _) hX3
      have hXr : wr.heap.size ≤ wa.heap.size := HBa.out.size
      have hB3 := below_step HBa.out bx
      obtain ⟨wb, hwb⟩ : ∃ wb, wa.alloc (.cells #[.int .i64 1, .int .i64 0, .string ⟨#[]⟩, .slice A3 0 c3, .string ⟨#[]⟩, .slice (some ⟨g, 0, none⟩) 1 c5] 26) = wb := ⟨_, rfl⟩
      rw [hwb] at hX3 hOw hB3 ⊢
      obtain ⟨X3, hX⟩ : ∃ X, wa.heap.size = X := ⟨_, rfl⟩
      rw [hX] at hX3 hOw hXr ⊢
      have HOw := hide hOw
      have HX3 := hide hX3
      have HXr := hide hXr
      have HB3 := hide hB3
      have HXg := hide hOw.hX
      have c5_ := cell_of_row _ _ 5 _ _ _ hX3
      have HC5 := hide (fun (o : Obj) => cellW c5_ (below_alloc (Below.refl wb.heap.size wb) o))
      clear hwb hX hX3 hOw hXr hB3 bx HO HBa
      go_upto_region 8 with fail
      go_upto_block 2 with fail
      go_cut [] from 30 to 76 (fun wx => NumE X3 wr wx)
      case first =>
        have hn10 : n = 0 ∨ n = 1 ∨ n = 2 ∨ n = 3 ∨ n = 4 ∨ n = 5 ∨ n = 6 ∨ n = 7 ∨ n = 8 := by omega
        clear hlt hn9 hn1
        obtain ⟨gc, hgc, hgs⟩ := HOw.out.cells
        have z1 := blk_frozen hgc 1
        have z2 := blk_frozen hgc 2
        have z3 := blk_frozen hgc 3
        have z4 := blk_frozen hgc 4
        have z5 := blk_frozen hgc 5
        have x0 := blk_frozen HX3.out 0
        have x5 := blk_frozen HX3.out 5
        have y0 := cell_of_row _ _ 0 _ _ _ HX3.out
        obtain ⟨K3, k3, K5, k5, hR, hF, hk5⟩ := HOw.out.row
        obtain ⟨-, r1, r2, r3, r4, r5⟩ := raw_cells (Kd.R_reads' hR).2.2 0 _ rfl
        simp only [Nat.zero_mul, Nat.zero_add] at r1 r2 r3 r4 r5
        have HR := hide hR
        have HF := hide hF
        have HK5 := hide hk5
        have HGC := hide hgc
        clear hR hF hk5 hgc hgs
        rcases hn10 with rfl | rfl | rfl | rfl | rfl | rfl | rfl | rfl | rfl
        · go_wp2_with fail
          go_meet
          exact ⟨HOw.out.same, HB3.out⟩
        · go_wp2_with fail
          go_meet
          exact ⟨HOw.out.name, HB3.out.setCell (p := ⟨g, 2, none⟩) HGG.out _⟩
        · go_wp2_with fail
          go_meet
          exact ⟨HOw.out.ns, HB3.out.setCell (p := ⟨g, 1, none⟩) HGG.out _⟩
        · have al := below_alloc (Below.refl wb.heap.size wb) (.cells #[.string ⟨#[97]⟩, .string ⟨#[]⟩] 47)
          have hL := heap_alloc_new wb (.cells #[.string ⟨#[97]⟩, .string ⟨#[]⟩] 47)
          have hgw := (al.block _ (blk_lt HGC.out)).trans HGC.out
          have zz3 := blk_frozen hgw 3
          have rr3 := cellW r3 al
          have cc5 := cellW c5_ al
          have HL := hide hL
          have HAL := hide al
          clear hL al hgw
          go_wp2_with fail
          go_meet
          exact ⟨(HOw.out.below HAL.out).attr HL.out, (below_step HB3.out HAL.out).setCell (p := ⟨g, 3, none⟩) HGG.out _⟩
        · have al := below_alloc (Below.refl wb.heap.size wb) (.cells #[.int .i64 5, .int .i64 0, .string ⟨#[]⟩, .slice none 0 0, .string ⟨#[]⟩, .slice none 0 0] 26)
          have hL := heap_alloc_new wb (.cells #[.int .i64 5, .int .i64 0, .string ⟨#[]⟩, .slice none 0 0, .string ⟨#[]⟩, .slice none 0 0] 26)
          have HL := hide hL
          have HAL := hide al
          have hlt3 : X3 < (wb.alloc (.cells #[.int .i64 5, .int .i64 0, .string ⟨#[]⟩, .slice none 0 0, .string ⟨#[]⟩, .slice none 0 0] 26)).heap.size := Nat.lt_of_lt_of_le (blk_lt HX3.out) al.size
          have HL3 := hide hlt3
          clear hL al hlt3 y0 x0 z1 z2 z3 z4 z5 r1 r2 r3 r4 r5
          go_wp2_with (at_builtin; refine Kd.R_append_rows kRaw (Rr := kRaw.K (wb.alloc (.cells #[.int .i64 5, .int .i64 0, .string ⟨#[]⟩, .slice none 0 0, .string ⟨#[]⟩, .slice none 0 0] 26))) (w0 := wr) wr.heap.size rfl (.tmp 54) (.tmp 56) 24 26 (.agg #[.int .i64 0, .int .i64 0, .string ⟨#[]⟩, .slice none 0 0, .string ⟨#[]⟩, .slice none 0 0]) 96 rfl Tryd.underlying24 info26 rfl (by decide) (by decide) (.slice (some ⟨g, 0, none⟩) 1 c5) [rawT numK K3 k3 K5 k5] [⟨⟨.int .i64 5, rfl⟩, ⟨.int .i64 0, rfl⟩, ⟨.string ⟨#[]⟩, rfl⟩, ⟨.slice none 0 0, rfl⟩, ⟨.string ⟨#[]⟩, rfl⟩, ⟨.slice none 0 0, rfl⟩⟩] (some ⟨wb.heap.size, 0, none⟩) 1 1 (fun _ => True) (fun _ => False) rfl rfl (Kd.R_mono (Kd.R_below HR.out HAL.out) (fun _ _ => trivial)) (raw_lit rfl rfl rfl rfl rfl rfl HL.out) (fun _ _ h => kRaw_KM h) (fun k hk => hk.elim) (fun _ _ => trivial) (below_step HB3.out HAL.out) (below_step HB3.out HAL.out).size (by simp) ?_; intro v1 w3 ho hb hg hown; obtain ⟨Av, cv, rfl⟩ := Kd.R_slice ho; rw [show ([rawT numK K3 k3 K5 k5] ++ [(⟨⟨.int .i64 5, rfl⟩, ⟨.int .i64 0, rfl⟩, ⟨.string ⟨#[]⟩, rfl⟩, ⟨.slice none 0 0, rfl⟩, ⟨.string ⟨#[]⟩, rfl⟩, ⟨.slice none 0 0, rfl⟩⟩ : Raw)]).length = 2 from rfl] at ho hown ⊢; have hX3w := (hg.block X3 HL3.out (by intro e; injection e with e; exact HXg.out e.symm)).trans ((HAL.out.block _ (blk_lt HX3.out)).trans HX3.out); have f5 := blk_frozen hX3w 5; have g5 := cell_of_row _ _ 5 _ _ _ hX3w; have HO := hide ho; have HBB := hide hb; have HGR := hide hg; have HOW := hide hown; clear ho hb hg hown hX3w)
          go_meet
          exact ⟨HOw.out.more HAL.out HGR.out HF.out HK5.out HO.out (fun e => by
            rcases HOW.out with h1 | ⟨b, h1, h2⟩
            · rw [e] at h1
              injection h1 with h1
              exact HXg.out h1.symm
            · rw [e] at h1
              injection h1 with h1
              have := HL3.out
              omega), HBB.out.setCell (p := ⟨X3, 5, none⟩) HXr.out _⟩
        · go_wp2_with fail
          go_meet
          exact ⟨HOw.out.kids, HB3.out.setCell (p := ⟨g, 5, none⟩) HGG.out _⟩
        · go_wp2_with fail
          go_meet
          exact ⟨HOw.out.none_, HB3.out.setCell (p := ⟨X3, 5, none⟩) HXr.out _⟩
        · go_wp2_with fail
          go_meet
          exact ⟨HOw.out.kind, HB3.out.setCell (p := ⟨X3, 0, none⟩) HXr.out _⟩
        · go_wp2_with fail
          go_meet
          exact ⟨HOw.out.text, HB3.out.setCell (p := ⟨g, 4, none⟩) HGG.out _⟩
      case rest =>
        clear c5_ HC5 HX3 HOw
        obtain ⟨⟨⟨x0, x1, x2, x3, x4, x5⟩, C3, e3, C5, e5, hX3, hTV, hal, hW⟩, hBc⟩ := hcut
        dsimp only at hX3 hTV
        have hB1c := below_step HBr.out hBc
        have hX1c := (hB1c.block _ (blk_lt HX1.out)).trans HX1.out
        have HTb := hide (HT1.out.below hB1c).now
        have HTx := hide hTV
        have HS1 := hide (fun (V : World) (hV : Below wc.heap.size wc V) => sameTV 6 _ _ _ _ V (HTb.out.below hV) (HTx.out.below hV) (by decide) num_al.1 hal (by have := num_al.2; omega))
        have HS2 := hide (fun (V : World) (hV : Below wc.heap.size wc V) => sameTV 6 _ _ _ _ V (HTx.out.below hV) (HTb.out.below hV) (by decide) hal num_al.1 (by have := num_al.2; omega))
        have HS3 := hide (fun (V : World) (hV : Below wc.heap.size wc V) => sameTV 6 _ _ _ _ V (HTx.out.below hV) (HTx.out.below hV) (by decide) hal hal (by omega))
        have HB1c := hide hB1c
        have a0 := cell_of_row _ _ 0 _ _ _ hX1c
        have a1 := cell_of_row _ _ 1 _ _ _ hX1c
        have a2 := cell_of_row _ _ 2 _ _ _ hX1c
        have a3 := cell_of_row _ _ 3 _ _ _ hX1c
        have a4 := cell_of_row _ _ 4 _ _ _ hX1c
        have a5 := cell_of_row _ _ 5 _ _ _ hX1c
        have q0 := cell_of_row _ _ 0 _ _ _ hX3
        have q1 := cell_of_row _ _ 1 _ _ _ hX3
        have q2 := cell_of_row _ _ 2 _ _ _ hX3
        have q3 := cell_of_row _ _ 3 _ _ _ hX3
        have q4 := cell_of_row _ _ 4 _ _ _ hX3
        have q5 := cell_of_row _ _ 5 _ _ _ hX3
        clear hX1c hX3 hTV hal hW hBc hB1c HTb HTx
        go_wp2_with fail
        (with_reducible refine (HS1.out wc (Below.refl _ _)).mono ?_)
        rintro e v1 ⟨rfl, b1⟩
        dsimp only
        have k0 := cellW a0 b1
        have k1 := cellW a1 b1
        have k2 := cellW a2 b1
        have k3 := cellW a3 b1
        have k4 := cellW a4 b1
        have k5 := cellW a5 b1
        have l0 := cellW q0 b1
        have l1 := cellW q1 b1
        have l2 := cellW q2 b1
        have l3 := cellW q3 b1
        have l4 := cellW q4 b1
        have l5 := cellW q5 b1
        have HV1 := hide b1
        clear b1
        go_wp2_with fail
        (with_reducible refine (HS2.out v1 HV1.out).mono ?_)
        rintro e v2 ⟨rfl, b2⟩
        dsimp only
        have m0 := cellW l0 b2
        have m1 := cellW l1 b2
        have m2 := cellW l2 b2
        have m3 := cellW l3 b2
        have m4 := cellW l4 b2
        have m5 := cellW l5 b2
        have HV2 := hide (below_step HV1.out b2)
        clear b2
        go_wp2_with fail
        (with_reducible refine (HS3.out v2 HV2.out).mono ?_)
        rintro e v3 ⟨rfl, b3⟩
        dsimp only
        have HV3 := hide (below_step HB1c.out (below_step HV2.out b3))
        clear b3
        go_wp2_with fail
        go_roundw
        case rel => exact ⟨n + 1, by omega, by go_num, ⟨HV3.out⟩⟩
        case measure => simp [intOf]; omega
    · have hn1 : ¬ (n : Int) < 9 := by omega
      have hX1r := (HBr.out.block _ (blk_lt HX1.out)).trans HX1.out
      have HTr := hide (HT1.out.below HBr.out)
      have HBw := hide (below_step HB1.out HBr.out)
      have HA9 := hide (fun (V : World) (hV : Below wr.heap.size wr V) => at_one B3 d3 h d5 9 (.inl rfl) V _ (HTr.out.below hV))
      have HA1 := hide (fun (V : World) (hV : Below wr.heap.size wr V) => at_one B3 d3 h d5 (-1) (.inr rfl) V _ (HTr.out.below hV))
      have HA0 := hide (fun (V : World) (hV : Below wr.heap.size wr V) => at_nil B3 d3 h d5 V _ (HTr.out.below hV))
      have HXR := hide hX1r
      have a0 := cell_of_row _ _ 0 _ _ _ hX1r
      have a1 := cell_of_row _ _ 1 _ _ _ hX1r
      have a2 := cell_of_row _ _ 2 _ _ _ hX1r
      have a3 := cell_of_row _ _ 3 _ _ _ hX1r
      have a4 := cell_of_row _ _ 4 _ _ _ hX1r
      have a5 := cell_of_row _ _ 5 _ _ _ hX1r
      clear hlt hn9 hX1r
      go_upto_region 28 with (go_at_call 15; (with_reducible refine (HA9.out wr (Below.refl _ _)).mono ?_); rintro e v1 ⟨Z3, z3, Z5, z5, rfl, b1⟩; have HV1 := hide b1; clear b1)
      clear a0 a1 a2 a3 a4 a5
      have bx := below_step HV1.out (below_alloc (Below.refl v1.heap.size v1) (.cells #[.int .i64 0, .int .i64 0, .string ⟨#[]⟩, .slice Z3 0 z3, .string ⟨#[]⟩, .slice Z5 0 z5] 26))
      obtain ⟨v2, hv2⟩ : ∃ v2, v1.alloc (.cells #[.int .i64 0, .int .i64 0, .string ⟨#[]⟩, .slice Z3 0 z3, .string ⟨#[]⟩, .slice Z5 0 z5] 26) = v2 := ⟨_, rfl⟩
      rw [hv2] at bx ⊢
      have hX1r := (bx.block _ (blk_lt HXR.out)).trans HXR.out
      have a0 := cell_of_row _ _ 0 _ _ _ hX1r
      have a1 := cell_of_row _ _ 1 _ _ _ hX1r
      have a2 := cell_of_row _ _ 2 _ _ _ hX1r
      have a3 := cell_of_row _ _ 3 _ _ _ hX1r
      have a4 := cell_of_row _ _ 4 _ _ _ hX1r
      have a5 := cell_of_row _ _ 5 _ _ _ hX1r
      have HV2 := hide bx
      clear bx hv2 hX1r
      go_upto_region 29 with (go_at_call 15; (with_reducible refine (HA1.out v2 HV2.out).mono ?_); rintro e v3 ⟨Y3, y3, Y5, y5, rfl, b1⟩; have HV3 := hide b1; clear b1)
      clear a0 a1 a2 a3 a4 a5
      have bx := below_step (below_step HV2.out HV3.out) (below_alloc (Below.refl v3.heap.size v3) (.cells #[.int .i64 0, .int .i64 0, .string ⟨#[]⟩, .slice Y3 0 y3, .string ⟨#[]⟩, .slice Y5 0 y5] 26))
      obtain ⟨v4, hv4⟩ : ∃ v4, v3.alloc (.cells #[.int .i64 0, .int .i64 0, .string ⟨#[]⟩, .slice Y3 0 y3, .string ⟨#[]⟩, .slice Y5 0 y5] 26) = v4 := ⟨_, rfl⟩
      rw [hv4] at bx ⊢
      have hX1r := (bx.block _ (blk_lt HXR.out)).trans HXR.out
      have a0 := cell_of_row _ _ 0 _ _ _ hX1r
      have a1 := cell_of_row _ _ 1 _ _ _ hX1r
      have a2 := cell_of_row _ _ 2 _ _ _ hX1r
      have a3 := cell_of_row _ _ 3 _ _ _ hX1r
      have a4 := cell_of_row _ _ 4 _ _ _ hX1r
      have a5 := cell_of_row _ _ 5 _ _ _ hX1r
      have HV4 := hide bx
      clear bx hv4 hX1r
      go_upto_region 30 with (go_at_call 15; (with_reducible refine (HA0.out v4 HV4.out).mono ?_); rintro e v5 ⟨Q3, q3, Q5, q5, rfl, hT, b1⟩; have HT5 := hide hT; have HV5 := hide b1; clear b1 hT)
      clear a0 a1 a2 a3 a4 a5
      have ba := below_alloc (Below.refl v5.heap.size v5) (.cells #[.int .i64 1, .int .i64 0, .string ⟨#[]⟩, .slice Q3 0 q3, .string ⟨#[]⟩, .slice Q5 1 q5] 26)
      have hXC := heap_alloc_new v5 (.cells #[.int .i64 1, .int .i64 0, .string ⟨#[]⟩, .slice Q3 0 q3, .string ⟨#[]⟩, .slice Q5 1 q5] 26)
      have bx := below_step (below_step HV4.out HV5.out) ba
      have HT6 := hide (HT5.out.below ba)
      obtain ⟨v6, hv6⟩ : ∃ v6, v5.alloc (.cells #[.int .i64 1, .int .i64 0, .string ⟨#[]⟩, .slice Q3 0 q3, .string ⟨#[]⟩, .slice Q5 1 q5] 26) = v6 := ⟨_, rfl⟩
      rw [hv6] at bx HT6 hXC ⊢
      have hX1r := (bx.block _ (blk_lt HXR.out)).trans HXR.out
      have a0 := cell_of_row _ _ 0 _ _ _ hX1r
      have a1 := cell_of_row _ _ 1 _ _ _ hX1r
      have a2 := cell_of_row _ _ 2 _ _ _ hX1r
      have a3 := cell_of_row _ _ 3 _ _ _ hX1r
      have a4 := cell_of_row _ _ 4 _ _ _ hX1r
      have a5 := cell_of_row _ _ 5 _ _ _ hX1r
      have c0 := cell_of_row _ _ 0 _ _ _ hXC
      have c1 := cell_of_row _ _ 1 _ _ _ hXC
      have c2 := cell_of_row _ _ 2 _ _ _ hXC
      have c3 := cell_of_row _ _ 3 _ _ _ hXC
      have c4 := cell_of_row _ _ 4 _ _ _ hXC
      have c5 := cell_of_row _ _ 5 _ _ _ hXC
      have HV6 := hide bx
      have HK := hide (keepTree (docN [numK]) (docN [numK]) _ _ v6 HT6.out (HTr.out.below bx).now num_alB)
      have HK2 := HK.out
      rw [num_eqT] at HK2
      have HK3 := hide HK2
      clear bx hv6 hX1r HK HK2 ba hXC
      go_wp2_with fail
      (with_reducible refine HK3.out.mono ?_)
      rintro e v7 ⟨rfl, b7⟩
      dsimp only
      have HV7 := hide (below_step HV6.out b7)
      clear b7
      go_wp2_with fail
      (with_reducible refine (known v7).mono ?_)
      rintro e v8 ⟨rfl, b8⟩
      dsimp only
      have HV8 := hide (below_step HBw.out (below_step HV7.out b8))
      clear b8
      go_wp2_with fail
      go_ret
      exact ⟨rfl, HV8.out⟩
end Go.Proofs.YteglfgmgpbablaaDoor.Cmp
