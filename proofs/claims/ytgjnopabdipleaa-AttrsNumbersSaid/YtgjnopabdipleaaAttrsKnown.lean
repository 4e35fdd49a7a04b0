/- The walk of arbourlaw7.known: true. -/
import Derived.Test.YtgjnopabdipleaaAttrsPlain
namespace Go.Proofs.Ytgjnopabdipleaa.Attrs
open Go.RowKit Go.Proofs.Ytgjnopabdipleaa.PAttrsTells Go.Proofs.YtgjnopabdipleaaW.PrintWords Go.Proofs.YtgjnopabdipleaaW.PrintLast

/-- A block that holds the cells of these attributes reads so. -/
theorem rds_blk {w : World} {g : Nat} {cs : Array Value} {t : TypeId} {fr : Nat × Nat} (h : w.heap[g]? = some (.cells cs t fr)) (xs : List S29) (c : Nat) (hl : xs.length ≤ c) (hm : xs.length ≤ 9223372036854775807)
    (hcs : ∀ (j : Nat) (p : S29), xs[j]? = some p → cs[j * 2]? = some (.string p.f0) ∧ cs[j * 2 + 1]? = some (.string p.f1)) : Rds w (some ⟨g, 0, none⟩) c xs := by
  refine ⟨⟨rfl, hm, fun _ => ⟨_, rfl, fun j p hj => ⟨[.string p.f0, .string p.f1], rfl, k29_mk w p, fun i u hu => ?_⟩⟩⟩, hl⟩
  have ea : ∀ m, (⟨g, 0, none⟩ : Addr).add m = ⟨g, m, none⟩ := by intro m; unfold Addr.add; split <;> simp_all
  rw [ea, cell_of_row w g _ cs t fr h]
  obtain ⟨h0, h1⟩ := hcs j p hj
  match i, hu with
  | 0, hu => rw [← hu]; exact h0
  | 1, hu => rw [← hu]; exact h1

def A1 : S29 := ⟨⟨#[97]⟩, ⟨#[49]⟩⟩
def A2 : S29 := ⟨⟨#[97]⟩, ⟨#[50]⟩⟩
def B3 : S29 := ⟨⟨#[98]⟩, ⟨#[51]⟩⟩
theorem known_more : moreL [A1] [A2, B3] = [A1, B3] := by
  have h1 : fnd [A1] A2.f0 = 0 := by decide +kernel
  have h2 : fnd [A1] B3.f0 = -1 := by decide +kernel
  have e1 : addL [A1] A2 = [A1] := by unfold addL; rw [h1, if_neg (by decide)]
  have e2 : addL [A1] B3 = [A1, B3] := by unfold addL; rw [h2, if_pos (by decide)]; rfl
  unfold moreL
  rw [List.foldl_cons, List.foldl_cons, List.foldl_nil, e1, e2]
theorem known_get : fnd [A1, B3] ⟨#[99]⟩ = -1 := by decide +kernel

set_option maxHeartbeats 1000000 in
set_option maxRecDepth 100000 in
theorem known (w : World) : Calls Try.prog 12 #[] w fun e w' => e = .returned (.bool true) ∧ Below w.heap.size w w' := by
  go_enter Try.func12, Try.ntmps12
  go_wp2_with fail
  have hw1 : Below w.heap.size w ((w.alloc (.cells #[.string ⟨#[97]⟩, .string ⟨#[49]⟩] 29)).alloc (.cells #[.string ⟨#[97]⟩, .string ⟨#[50]⟩, .string ⟨#[98]⟩, .string ⟨#[51]⟩] 29)) := below_alloc (below_alloc (Below.refl _ _) _) _
  have r2 : Rds ((w.alloc (.cells #[.string ⟨#[97]⟩, .string ⟨#[49]⟩] 29)).alloc (.cells #[.string ⟨#[97]⟩, .string ⟨#[50]⟩, .string ⟨#[98]⟩, .string ⟨#[51]⟩] 29)) (some ⟨w.heap.size + 1, 0, none⟩) 2 [A2, B3] := by
    refine rds_blk (g := w.heap.size + 1) (by have := heap_alloc_new (w.alloc (.cells #[.string ⟨#[97]⟩, .string ⟨#[49]⟩] 29)) (.cells #[.string ⟨#[97]⟩, .string ⟨#[50]⟩, .string ⟨#[98]⟩, .string ⟨#[51]⟩] 29); simpa using this) _ 2 (by simp) (by simp) ?_
    intro j p hj
    match j, hj with
    | 0, hj => cases hj; exact ⟨rfl, rfl⟩
    | 1, hj => cases hj; exact ⟨rfl, rfl⟩
  have r1 : Rds ((w.alloc (.cells #[.string ⟨#[97]⟩, .string ⟨#[49]⟩] 29)).alloc (.cells #[.string ⟨#[97]⟩, .string ⟨#[50]⟩, .string ⟨#[98]⟩, .string ⟨#[51]⟩] 29)) (some ⟨w.heap.size, 0, none⟩) 1 [A1] := by
    have h0 : Rds (w.alloc (.cells #[.string ⟨#[97]⟩, .string ⟨#[49]⟩] 29)) (some ⟨w.heap.size, 0, none⟩) 1 [A1] := by
      refine rds_blk (heap_alloc_new w _) _ 1 (by simp) (by simp) ?_
      intro j p hj
      match j, hj with
      | 0, hj => cases hj; exact ⟨rfl, rfl⟩
    exact ⟨Kd.C_below h0.1 (below_alloc (Below.refl _ _) _), h0.2⟩
  refine (more _ _ 1 2 [A1] [A2, B3] _ r1 r2 (by simp)).mono ?_
  rw [known_more]
  rintro e w1 ⟨v, rfl, hR, hb1⟩
  obtain ⟨A, c, rfl, hl, hC⟩ := Kd.R_reads hR
  have HB1 := hide (below_step hw1 hb1)
  have HC := hide (show Rds w1 A c [A1, B3] from ⟨hC, hl⟩)
  clear hR hb1 hw1 r1 r2 hC
  dsimp only
  simp only [List.length_cons, List.length_nil, Nat.zero_add, Nat.reduceAdd] at hl ⊢
  go_wp2_with fail
  refine (get A c [A1, B3] ⟨#[99]⟩ _ HC.out).mono ?_
  rintro e w2 ⟨rfl, hb2⟩
  obtain ⟨t, ht⟩ : ∃ t, getV [A1, B3] ⟨#[99]⟩ = t := ⟨_, rfl⟩
  rw [ht, known_get, show decide ((0 : Int) ≤ -1) = false from rfl]
  clear ht
  have HB2 := hide (below_step HB1.out hb2)
  have HC2 := hide (show Rds w2 A c [A1, B3] from ⟨Kd.C_below HC.out.1 hb2, HC.out.2⟩)
  clear hb2 HB1 HC
  dsimp only
  go_wp2_with fail
  have r3 : Rds (w2.alloc (.cells #[.string ⟨#[97]⟩, .string ⟨#[49]⟩, .string ⟨#[98]⟩, .string ⟨#[51]⟩] 29)) (some ⟨w2.heap.size, 0, none⟩) 2 [A1, B3] := by
    refine rds_blk (heap_alloc_new w2 _) _ 2 (by simp) (by simp) ?_
    intro j p hj
    match j, hj with
    | 0, hj => cases hj; exact ⟨rfl, rfl⟩
    | 1, hj => cases hj; exact ⟨rfl, rfl⟩
  have hb3 : Below w2.heap.size w2 (w2.alloc (.cells #[.string ⟨#[97]⟩, .string ⟨#[49]⟩, .string ⟨#[98]⟩, .string ⟨#[51]⟩] 29)) := below_alloc (Below.refl _ _) _
  refine (arbourkeep_Attrs.calls 10 A c [A1, B3] _ 2 [A1, B3] true _ (Kd.C_below HC2.out.1 hb3) HC2.out.2 r3.1 r3.2 (by rw [keepAttrs_some _ _ (by simp) 10 (by simp), eqAll_refl])).mono ?_
  rintro e w3 ⟨rfl, ⟨nd, rfl⟩⟩
  have HB3 := hide (below_step HB2.out hb3)
  clear hb3 r3
  dsimp only
  go_wp2_with fail
  go_ret
  exact ⟨rfl, pw_below_drewN HB3.out _⟩
end Go.Proofs.Ytgjnopabdipleaa.Attrs
