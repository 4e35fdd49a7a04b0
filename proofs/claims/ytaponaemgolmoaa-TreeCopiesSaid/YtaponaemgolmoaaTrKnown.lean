/- The walk of arbourlaw14.known: it is true. -/
import Derived.Test.YtaponaemgolmoaaTrCalls
namespace Go.Proofs.Ytaponaemgolmoaa.Tr
open Go.RowKit Go.Proofs.Ytaponaemgolmoaa.PTreeTells Go.Proofs.YtaponaemgolmoaaW.PrintWords Go.Proofs.YtaponaemgolmoaaW.PrintLast
set_option linter.unusedVariables false
set_option linter.unusedSimpArgs false
/-- One node in a block. -/
theorem one_row {w : World} {g : Nat} {ty : TypeId} {fr : Nat × Nat} {y : S26} {A3 A5 : Option Addr} {c3 c5 : Nat} (h : w.heap[g]? = some (.cells #[.int .i64 y.f0, .int .i64 y.f1, .string y.f2, .slice A3 y.f3.length c3, .string y.f4, .slice A5 y.f5.length c5] ty fr)) (l3 : y.f3.length ≤ c3) (g3 : k33.C w A3 y.f3.length y.f3) (l5 : y.f5.length ≤ c5) (g5 : k26.C w A5 y.f5.length y.f5) : k26.C w (some ⟨g, 0, none⟩) 1 [y] := by
  refine ⟨rfl, by decide, fun _ => ⟨_, rfl, fun j x hj => ?_⟩⟩
  match j, hj with
  | 0, hj =>
    cases hj
    refine ⟨_, rfl, k26_mk w y l3 g3 l5 g5, fun i u hu => ?_⟩
    rw [show k26.sz = 6 from rfl, add0, cell_of_row w g _ _ _ _ h]
    match i, hu with
    | 0, hu => rw [← hu]; rfl
    | 1, hu => rw [← hu]; rfl
    | 2, hu => rw [← hu]; rfl
    | 3, hu => rw [← hu]; rfl
    | 4, hu => rw [← hu]; rfl
    | 5, hu => rw [← hu]; rfl
def kT1 : S26 := ⟨4, 0, ⟨#[]⟩, [], ⟨#[97]⟩, []⟩
def kT2 : S26 := ⟨3, 1, ⟨#[112]⟩, [], ⟨#[]⟩, [kT1]⟩
def kT : S26 := ⟨1, 0, ⟨#[]⟩, [], ⟨#[]⟩, [kT2]⟩
def kD : S26 := ⟨1, 0, ⟨#[]⟩, [], ⟨#[]⟩, []⟩
theorem kT_sm : Sm kT := sm_of _ (by simp [kT, kT2, kT1, W, WK]) (by simp [kT, kT2, kT1, AllN, AllNK, NdOk]; decide)
theorem kD_sm : Sm kD := sm_of _ (by simp [kD, W, WK]) (by simp [kD, AllN, AllNK, NdOk]; decide)
theorem kT_show : (⟨(showR kT []).toArray⟩ : ByteArray) = ⟨#[60, 112, 62, 10, 32, 32, 34, 97, 34, 10]⟩ := by kernel_rfl
theorem kT_cnt : (cntT kT : Int) = 3 := by kernel_rfl
theorem kT_right : rightB kT = true := by kernel_rfl
theorem kD_cnt : (cntT kD : Int) = 1 := by kernel_rfl
set_option maxHeartbeats 20000000 in
set_option maxRecDepth 100000 in
theorem known (w : World) : Calls Try.prog 13 #[] w (RetV w (.bool true)) := by
  have hD : ∀ W, TV W (.agg #[.int .i64 1, .int .i64 0, .string ⟨#[]⟩, .slice none 0 0, .string ⟨#[]⟩, .slice none 0 0]) kD := fun W => ⟨none, 0, none, 0, rfl, Nat.le_refl _, Kd.C_nil _ _, Nat.le_refl _, Kd.C_nil _ _⟩
  have HD := hide (fun W => c_count kD _ W (hD W) kD_sm)
  rw [kD_cnt] at HD
  clear hD
  go_enter Try.func13, Try.ntmps13
  go_upto_region 2 with fail
  have h1 := heap_alloc_new w (.cells #[.int .i64 4, .int .i64 0, .string ⟨#[]⟩, .slice none 0 0, .string ⟨#[97]⟩, .slice none 0 0] 26)
  have b1 := below_alloc (Below.refl w.heap.size w) (.cells #[.int .i64 4, .int .i64 0, .string ⟨#[]⟩, .slice none 0 0, .string ⟨#[97]⟩, .slice none 0 0] 26)
  have s1 : (w.alloc (.cells #[.int .i64 4, .int .i64 0, .string ⟨#[]⟩, .slice none 0 0, .string ⟨#[97]⟩, .slice none 0 0] 26)).heap.size = w.heap.size + 1 := by simp
  generalize w.alloc (.cells #[.int .i64 4, .int .i64 0, .string ⟨#[]⟩, .slice none 0 0, .string ⟨#[97]⟩, .slice none 0 0] 26) = w1 at h1 b1 s1 ⊢
  have h2 := heap_alloc_new w1 (.cells #[.int .i64 3, .int .i64 1, .string ⟨#[112]⟩, .slice none 0 0, .string ⟨#[]⟩, .slice (some ⟨w.heap.size, 0, none⟩) 1 1] 26)
  have b2 := below_alloc (Below.refl w1.heap.size w1) (.cells #[.int .i64 3, .int .i64 1, .string ⟨#[112]⟩, .slice none 0 0, .string ⟨#[]⟩, .slice (some ⟨w.heap.size, 0, none⟩) 1 1] 26)
  have s2 : (w1.alloc (.cells #[.int .i64 3, .int .i64 1, .string ⟨#[112]⟩, .slice none 0 0, .string ⟨#[]⟩, .slice (some ⟨w.heap.size, 0, none⟩) 1 1] 26)).heap.size = w1.heap.size + 1 := by simp
  generalize w1.alloc (.cells #[.int .i64 3, .int .i64 1, .string ⟨#[112]⟩, .slice none 0 0, .string ⟨#[]⟩, .slice (some ⟨w.heap.size, 0, none⟩) 1 1] 26) = w2 at h2 b2 s2 ⊢
  have h3 := heap_alloc_new w2 (.cells #[.int .i64 1, .int .i64 0, .string ⟨#[]⟩, .slice none 0 0, .string ⟨#[]⟩, .slice (some ⟨w.heap.size + 1, 0, none⟩) 1 1] 26)
  have b3 := below_alloc (Below.refl w2.heap.size w2) (.cells #[.int .i64 1, .int .i64 0, .string ⟨#[]⟩, .slice none 0 0, .string ⟨#[]⟩, .slice (some ⟨w.heap.size + 1, 0, none⟩) 1 1] 26)
  generalize w2.alloc (.cells #[.int .i64 1, .int .i64 0, .string ⟨#[]⟩, .slice none 0 0, .string ⟨#[]⟩, .slice (some ⟨w.heap.size + 1, 0, none⟩) 1 1] 26) = w3 at h3 b3 ⊢
  rw [s1] at h2
  rw [s2, s1] at h3
  have k1 : k26.C w1 (some ⟨w.heap.size, 0, none⟩) 1 [kT1] := one_row (y := kT1) h1 (Nat.le_refl _) (Kd.C_nil _ _) (Nat.le_refl _) (Kd.C_nil _ _)
  have k2 : k26.C w2 (some ⟨w.heap.size + 1, 0, none⟩) 1 [kT2] := one_row (y := kT2) h2 (Nat.le_refl _) (Kd.C_nil _ _) (Nat.le_refl _) (Kd.C_below k1 b2)
  have hT : ∀ W, Below w3.heap.size w3 W → TV W (.agg #[.int .i64 1, .int .i64 0, .string ⟨#[]⟩, .slice none 0 0, .string ⟨#[]⟩, .slice (some ⟨w.heap.size + 1, 0, none⟩) 1 1]) kT := fun W hW => ⟨none, 0, some ⟨w.heap.size + 1, 0, none⟩, 1, rfl, Nat.le_refl _, Kd.C_nil _ _, Nat.le_refl _, Kd.C_below (Kd.C_below k2 b3) hW⟩
  have HS := hide (fun W hW => c_show kT _ W (hT W hW) kT_sm)
  have HC := hide (fun W hW => c_count kT _ W (hT W hW) kT_sm)
  have HR := hide (fun W hW => c_right kT _ W (hT W hW) kT_sm)
  rw [kT_show] at HS
  rw [kT_cnt] at HC
  rw [kT_right] at HR
  have HB := hide (below_step (below_step b1 b2) b3)
  have hcell : ∀ (W : World), Below w3.heap.size w3 W → W.heap[w.heap.size + 1 + 1]? = some (.cells #[.int .i64 1, .int .i64 0, .string ⟨#[]⟩, .slice none 0 0, .string ⟨#[]⟩, .slice (some ⟨w.heap.size + 1, 0, none⟩) 1 1] 26 (0, 0)) := fun W h => (h.block _ (blk_lt h3)).trans h3
  clear h1 b1 s1 h2 b2 s2 b3 k1 k2 hT
  have e0 := cell_of_row _ _ 0 _ _ _ h3
  have e1 := cell_of_row _ _ 1 _ _ _ h3
  have e2 := cell_of_row _ _ 2 _ _ _ h3
  have e3 := cell_of_row _ _ 3 _ _ _ h3
  have e4 := cell_of_row _ _ 4 _ _ _ h3
  have e5 := cell_of_row _ _ 5 _ _ _ h3
  go_wp2_with (first | (go_at_call 10; (with_reducible refine (HS.out _ (Below.refl _ _)).mono ?_); rintro e wa ⟨rfl, ba⟩; have f0 := cellW e0 ba; have f1 := cellW e1 ba; have f2 := cellW e2 ba; have f3 := cellW e3 ba; have f4 := cellW e4 ba; have f5 := cellW e5 ba) | (go_at_call 11; (with_reducible refine (HC.out _ ba).mono ?_); rintro e wb ⟨rfl, bb⟩; have bb2 := below_step ba bb; have g0 := cellW e0 bb2; have g1 := cellW e1 bb2; have g2 := cellW e2 bb2; have g3 := cellW e3 bb2; have g4 := cellW e4 bb2; have g5 := cellW e5 bb2) | (go_at_call 21; (with_reducible refine (HR.out _ bb2).mono ?_); rintro e wc ⟨rfl, bc⟩; have bc2 := below_step bb2 bc) | (go_at_call 11; (with_reducible refine (HD.out _).mono ?_); rintro e wd ⟨rfl, bd⟩; have bd2 := below_step bc2 bd))
  go_ret
  exact ⟨rfl, below_step HB.out bd2⟩
end Go.Proofs.Ytaponaemgolmoaa.Tr
