/- The arena's add. -/
import Derived.Test.YtjebpaapkmbahaaArKids
namespace Go.Proofs.Ytjebpaapkmbahaa.Ar
open Go.RowKit Go.Proofs.Ytjebpaapkmbahaa.PArenaPlays Go.Proofs.YtjebpaapkmbahaaW.PrintWords Go.Proofs.YtjebpaapkmbahaaW.PrintLast
set_option linter.unusedVariables false
set_option linter.unusedSimpArgs false
theorem info72 : (Try.prog.info? 72).map (fun i => (i.zero, i.size, i.bytes)) = some (some (.agg #[.int .i64 0, .int .i64 0, .string ⟨#[]⟩, .slice none 0 0, .string ⟨#[]⟩, .slice none 0 0, .int .i64 0, .int .i64 0, .int .i64 0, .int .i64 0, .int .i64 0, .int .i64 0]), 12, 144) := by kernel_rfl
/-- A row of one element, as a literal leaves it. -/
theorem lit_one {α : Type} {w : World} {g : Nat} {ty : TypeId} {fr : Nat × Nat} {cs : Array Value} {sz : Nat} (x : α) (h : w.heap[g]? = some (.cells cs ty fr)) (hs : cs.size = sz) : ReadsRow (fun y c => y = x ∧ c = cs.toList) sz w (some ⟨g, 0, none⟩) 1 [x] := by
  refine ⟨rfl, by simp, fun _ => ⟨_, rfl, fun j p hj => ?_⟩⟩
  match j, hj with
  | 0, hj =>
    cases hj
    refine ⟨cs.toList, by rw [Array.length_toList, hs], ⟨rfl, rfl⟩, fun i u hu => ?_⟩
    have ea : ∀ m, (⟨g, 0, none⟩ : Addr).add m = ⟨g, m, none⟩ := by intro m; unfold Addr.add; split <;> simp_all
    rw [ea, cell_of_row w g _ _ _ _ h]
    rw [Array.getElem?_toList] at hu
    rw [show 0 * sz + i = i from by omega]
    exact hu
theorem ret_int {k : IntKind} {a b : Int} (h : a = b) : Ending.returned (.int k a) = .returned (.int k b) := by rw [h]
/-- A node that stands nowhere. -/
def newN (t : S35) : S72 := ⟨t, -1, -1, -1, -1, -1, -1⟩
set_option maxHeartbeats 8000000 in
set_option maxRecDepth 100000 in
theorem add {w : World} {N g : Nat} {l : List S72} {q : Bool} (h : AS w N g l q) (hN : N ≤ w.heap.size) (t : S35) (h5 : t.f5 = []) {v3 : Value} {ok : Nat → Prop} (h3 : k62.R 62 w N ok v3 t.f3) (hl : l.length ≤ 100000000) :
    Calls Try.prog 39 #[.pointer (some ⟨g, 0, none⟩), .agg #[.int .i64 t.f0, .int .i64 t.f1, .string t.f2, v3, .string t.f4, .slice none 0 0]] w fun e w' => e = .returned (.int .i64 (l.length : Int)) ∧ AS w' N g (l ++ [newN t]) q ∧ Fr N TA w w' := by
  obtain ⟨v, hb, hg, hR⟩ := h
  obtain ⟨A3, c3, hv3⟩ := Kd.R_slice h3
  subst hv3
  have hx := heap_alloc_new w (.cells #[.int .i64 t.f0, .int .i64 t.f1, .string t.f2, .slice A3 t.f3.length c3, .string t.f4, .slice none 0 0] 35)
  have b1 := below_alloc (Below.refl w.heap.size w) (.cells #[.int .i64 t.f0, .int .i64 t.f1, .string t.f2, .slice A3 t.f3.length c3, .string t.f4, .slice none 0 0] 35)
  obtain ⟨w1, hw1⟩ : ∃ w1, w.alloc (.cells #[.int .i64 t.f0, .int .i64 t.f1, .string t.f2, .slice A3 t.f3.length c3, .string t.f4, .slice none 0 0] 35) = w1 := ⟨_, rfl⟩
  rw [hw1] at hx b1
  have hb1 := (b1.block _ (blk_lt hb)).trans hb
  have HB1 := hide b1
  have HR1 := hide (Kd.R_below hR b1)
  have HR3 := hide (Kd.R_below h3 b1)
  have HX := hide hx
  have HG1 := hide hb1
  have HL := hide hl
  have HNN := hide hN
  have HGG := hide hg
  have HW1 := hide hw1
  have H5 := hide h5
  have hgne := Kd.R_ne (Kd.R_below hR b1) hb1 (by decide)
  have HNE := hide hgne
  obtain ⟨t0, t1, t2, t3, t4, t5⟩ := t
  dsimp only at *
  clear h3 hR hl h5 hgne hN hg hb
  go_enter Try.func39, Try.ntmps39
  have hw := HW1.out
  go_upto_region 1 with fail
  clear hw
  have bA := fun o => below_alloc (Below.refl w1.heap.size w1) o
  have c0 : w1.cell? ⟨g, 0, none⟩ = some v := cell_of_row _ _ 0 _ _ _ hb1
  have x0 := cell_of_row _ _ 0 _ _ _ hx
  have x1 := cell_of_row _ _ 1 _ _ _ hx
  have x2 := cell_of_row _ _ 2 _ _ _ hx
  have x3 := cell_of_row _ _ 3 _ _ _ hx
  have x4 := cell_of_row _ _ 4 _ _ _ hx
  have x5 := cell_of_row _ _ 5 _ _ _ hx
  have c0' := fun o => cellW c0 (bA o)
  have HBA := hide bA
  have HR3B := hide (fun (o : Obj) => show k62.R 62 (w1.alloc o) N (fun k => some k ≠ v.ownBlock) (.slice A3 t3.length c3) t3 from by
    have h1 := Kd.R_bound (Kd.R_alloc HR3.out o)
    refine Kd.R_mono h1 (fun k hk e => ?_)
    obtain ⟨_, _, _, q, hq, cells, hc⟩ := hk
    obtain ⟨cs, hcs⟩ := Kd.R_typed (Kd.R_alloc HR1.out o) k e.symm
    rw [hc] at hcs
    simp only [Option.some.injEq, Obj.cells.injEq] at hcs
    have hq2 : ∀ q, q ∈ 62 :: k62.E → q ≠ 72 := by decide
    exact hq2 q hq hcs.2.1)
  have HBW := hide (fun (o : Obj) => below_step b1 (bA o))
  have HBN := hide (fun (o : Obj) => (below_step b1 (bA o)).mono HNN.out)
  have HGLT := hide (fun (o : Obj) => Nat.lt_of_lt_of_le (blk_lt hb1) (bA o).size)
  clear hb1 b1 hx bA
  go_region_law (refine Kd.R_append_rows_step k72 (Rr := fun y c => y = newN ⟨t0, t1, t2, t3, t4, t5⟩ ∧ c = [.int .i64 t0, .int .i64 t1, .string t2, .slice A3 t3.length c3, .string t4, .slice none 0 0, .int .i64 (-1), .int .i64 (-1), .int .i64 (-1), .int .i64 (-1), .int .i64 (-1), .int .i64 (-1)]) (w0 := w) N rfl (.tmp 9) (.tmp 12) 67 72 (.agg #[.int .i64 0, .int .i64 0, .string ⟨#[]⟩, .slice none 0 0, .string ⟨#[]⟩, .slice none 0 0, .int .i64 0, .int .i64 0, .int .i64 0, .int .i64 0, .int .i64 0, .int .i64 0]) 144 rfl Try.underlying67 info72 rfl (by decide) (by decide) v l [newN ⟨t0, t1, t2, t3, t4, t5⟩] (some ⟨w1.heap.size, 0, none⟩) 1 1 (fun _ => True) (fun k => some k ≠ v.ownBlock) rfl rfl (by first | exact Kd.R_drew (Kd.R_alloc HR1.out _) | exact Kd.R_alloc (Kd.R_drew HR1.out) _ | exact Kd.R_alloc HR1.out _) (by first | exact lit_one _ (heap_alloc_new w1 _) rfl | exact lit_one _ (blk_drew (heap_alloc_new w1 _)) rfl | exact lit_one _ (heap_alloc_new w1.drew _) rfl) (fun y c hy => by
      obtain ⟨rfl, rfl⟩ := hy
      have h5 := H5.out
      subst h5
      have h3 : k62.R 62 (w1.alloc (.cells #[.int .i64 t0, .int .i64 t1, .string t2, .slice A3 t3.length c3, .string t4, .slice none 0 0, .int .i64 (-1), .int .i64 (-1), .int .i64 (-1), .int .i64 (-1), .int .i64 (-1), .int .i64 (-1)] 72)) N (fun k => some k ≠ v.ownBlock) (.slice A3 t3.length c3) t3 := HR3B.out _
      exact k72_mkM _ N _ (newN ⟨t0, t1, t2, t3, t4, []⟩) (Kd.R_drew h3) (Kd.R_nil _ _ _ _ _)) (fun k hk => ⟨trivial, hk⟩) (fun _ _ => trivial) (by first | exact HBN.out _ | exact (HBN.out _).drew) (Nat.le_trans HNN.out (HBN.out _).drew.size) (by have := HL.out; simp; omega) ?_; intro v1 w3 ho hb hg hown; obtain ⟨Av, cv, rfl⟩ := Kd.R_slice ho; rw [show (l ++ [newN ⟨t0, t1, t2, t3, t4, t5⟩]).length = l.length + 1 from by simp] at ho hown ⊢; have HO := hide ho; have HB3 := hide hb; have HG3 := hide hg; have hgb := (hg.block g (HGLT.out _) HNE.out).trans (((HBA.out _).block _ (blk_lt HG1.out)).trans HG1.out); have y0 := cell_of_row _ _ 0 _ _ _ hgb; have f0 := blk_frozen hgb 0; have HGB := hide hgb; clear ho hb hg hown hgb)
  all_goals (
    have hl := HL.out
    go_wp2_with fail
    go_ret
    exact ⟨ret_int rfl, ⟨_, blk_set HGB.out 0 _, HGG.out, Kd.R_set HO.out HGB.out (by decide) 0 _⟩, ((Fr.of_below (T := TA) (HBW.out _).drew HNN.out).grown HG3.out (fun b hb => ⟨Kd.R_base HR1.out b hb, by
      obtain ⟨cs, hc⟩ := Kd.R_typed HR1.out b hb
      exact ⟨cs, 72, ((HBA.out _).block b (blk_lt hc)).trans hc, .inr rfl⟩⟩) HNN.out).set HGB.out (.inl rfl) HGG.out 0 _⟩)
end Go.Proofs.Ytjebpaapkmbahaa.Ar
