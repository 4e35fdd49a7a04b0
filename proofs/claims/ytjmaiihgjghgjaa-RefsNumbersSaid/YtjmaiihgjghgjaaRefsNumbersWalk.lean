/- The walk of arbourlaw5.RefsNumbers: the closed sentence is true, and nothing that was there has turned. -/
import Derived.Test.YtjmaiihgjghgjaaRefsSameTexts
import Derived.Test.YtjmaiihgjghgjaaRefsTellsWalk
import Derived.Deep.RegionHeld3
namespace Go.Proofs.Ytjmaiihgjghgjaa.RefsNumbersLaw
open Go.RowKit Go.Proofs.Ytjmaiihgjghgjaa.PRefsLongest Go.Proofs.Ytjmaiihgjghgjaa.Pure Go.Proofs.Ytjmaiihgjghgjaa.RefsRef Go.Proofs.Ytjmaiihgjghgjaa.RefsNumber Go.Proofs.Ytjmaiihgjghgjaa.RefsTellsLaw Go.Proofs.YtjmaiihgjghgjaaW.PrintWords Go.Proofs.YtjmaiihgjghgjaaW.PrintLast

/-- The program's All, as the reference's. -/
theorem own_all (w : World) : Calls Try.prog 7 #[] w (TextsPost N w) :=
  (refs_All.calls 60 N w all_some).mono fun e w' ⟨v, he, hR, hb⟩ => by
    obtain ⟨A, c, rfl, hc, hC⟩ := Kd.R_reads hR
    exact ⟨A, c, he, Kd.reads_of_C (d := ByteArray.empty) hC, hb⟩

def ten : List Int := [55295, 55296, 57343, 57344, 65535, 65536, 1114111, 1114112, 1099511627776, -4611686018427387904]

set_option maxHeartbeats 2000000 in
set_option maxRecDepth 100000 in
theorem law (w : World) : Calls Try.prog 6 #[] w fun e w' => e = .returned (.bool true) ∧ Below w.heap.size w w' := by
  go_enter Try.func6, Try.ntmps6
  go_wp2_with fail
  refine (all _).mono ?_
  rintro e w1 ⟨A, c, rfl, hC1, hb1⟩
  rw [N_len] at hC1 ⊢
  have HB1 := hide hb1
  clear hb1
  dsimp only
  go_wp2_with fail
  refine (own_all _).mono ?_
  rintro e w2 ⟨A2, c2, rfl, hC2, hb2⟩
  rw [N_len] at hC2 ⊢
  have HC1 := hide (ReadsOf.below hC1 hb2)
  have HB2 := hide (below_step HB1.out hb2)
  have HC2 := hide hC2
  clear hb2 hC1 hC2 HB1
  dsimp only
  go_wp2_with fail
  refine (same_texts A2 A 51 c2 c N _ HC2.out HC1.out).mono ?_
  rintro e w3 ⟨rfl, hb3⟩
  have HC := hide (ReadsOf.below HC1.out hb3)
  have HB := hide (below_step HB2.out hb3)
  clear hb3 HC1 HC2 HB2
  dsimp only
  go_wp2_with fail
  obtain ⟨ad, rfl, _⟩ := HC.out.at_ 0 (by omega) (by omega)
  go_loopw [2] (fun i wr => ∃ k : Nat, k ≤ 51 ∧ i = .int .i64 k ∧ Aside0 (ReadsOf Value.string ByteArray.empty wr (some ad) 51 N) ∧ Aside0 (Below w.heap.size w wr)) (fun i _ => 51 - (intOf i).toNat)
  case atStart => exact ⟨0, by omega, rfl, ⟨HC.out⟩, ⟨HB.out⟩⟩
  case round =>
    clear HC HB
    obtain ⟨k, hk, rfl, HC, HB⟩ := hrel
    by_cases hlt : k < 51
    · obtain ⟨_, e, hck⟩ := HC.out.at_ (k : Int) (by omega) (by omega)
      cases e
      rw [RefsTellsLaw.rd_N, Int.toNat_natCast] at hck
      have hyb := RefsTellsLaw.N_bound k hlt
      have hy2 : 2 ≤ (N.getD k ByteArray.empty).size := by
        have hmem : N.getD k ByteArray.empty ∈ N := by
          rw [List.getD_eq_getElem?_getD, List.getElem?_eq_getElem (by rw [N_len]; exact hlt)]
          exact List.getElem_mem _
        simpa using List.all_eq_true.1 N_sizes _ hmem
      generalize N.getD k ByteArray.empty = y at hck hyb hy2
      have k1 : (k : Int) < 51 := by omega
      have k2 : (0 : Int) ≤ (k : Int) := by omega
      have p1 : y.size + 1 ≤ 9223372036854775807 := by omega
      have p2 : 1 ≤ y.size := by omega
      have p3 : y.size < 9223372036854775807 := by omega
      have p4 : 0 < y.size := by omega
      have p5 : (1 : Int) ≤ (y.size : Int) := by omega
      have p6 : (y.size : Int) - 1 ≤ (y.size : Int) := by omega
      have p7 : y.size - 1 ≤ y.size := by omega
      have p10 : (9223372036854775807 < y.size + 1) = False := eq_false (by omega)
      have p8 : y.size + (⟨#[59]⟩ : ByteArray).size ≤ 9223372036854775807 := p1
      have p9 : y.size + (⟨#[120]⟩ : ByteArray).size ≤ 9223372036854775807 := p1
      have e1 : IntKind.i64.wrap ((y.size : Int) - 1) = (y.size : Int) - 1 := IntWalk.i64_in _ (by omega)
      go_wp2_with fail
      have hbl : (ad.add k).block < wr.heap.size := World.block_lt_of_cell? wr _ hck
      go_region_held3 (fun w' => w'.cell? (ad.add k) = some (.string y) ∧ Below wr.heap.size wr w')
        (first | exact ⟨hck, (Below.refl _ _).drew⟩ | (go_split_ands; refine ⟨?_, ?_⟩; (exact (hb4.cell (p := ad.add k) (Nat.lt_of_lt_of_le hbl (Below.size (by assumption)))).trans (by assumption)); (exact below_step (by assumption) hb4)) | go_keep)
        (first | (go_at_call 13; refine (same _ _).mono ?_; rintro e w4 ⟨rfl, hb4⟩))
      go_wp2_with fail
      go_roundw
      case rel =>
        go_split_ands
        have hb9 : Below wr.heap.size wr w4 := by assumption
        exact ⟨k + 1, by omega, by go_num, ⟨ReadsOf.below HC.out hb9⟩, ⟨below_step HB.out hb9⟩⟩
      case measure => simp only [intOf]; omega
    · have e51 : k = 51 := by omega
      subst e51
      clear HC
      have HX := hide HB.out
      clear HB
      go_wp2_with fail
      go_loopw [3] (fun i wr => ∃ z : Int, -2 ≤ z ∧ z ≤ 300 ∧ i = .int .i64 z ∧ Aside0 (Below w.heap.size w wr)) (fun i _ => (300 - intOf i).toNat)
      case atStart => exact ⟨-2, by omega, by omega, rfl, ⟨HX.out⟩⟩
      case round =>
        clear HX
        obtain ⟨z, hz1, hz2, rfl, HB⟩ := hrel
        by_cases hlt : z < 300
        · obtain ⟨s, hs⟩ : ∃ s, numText z = s := ⟨_, rfl⟩
          have HS := hide hs
          clear hs
          go_wp2_with (first
            | (go_at_call 14; (with_reducible refine (number_is z s HS.out _).mono ?_); rintro e w4 ⟨rfl, hb4⟩; have HB4 := hide (below_step HB.out hb4); clear HB hb4; have HB := HB4; clear HB4; dsimp only)
            | (go_at_call 15; (with_reducible refine (ref_is z s HS.out _).mono ?_); rintro e w4 ⟨rfl, hb4⟩; have HB4 := hide (below_step HB.out hb4); clear HB hb4; have HB := HB4; clear HB4; dsimp only))
          go_roundw
          case rel => exact ⟨z + 1, by omega, by omega, by go_num, ⟨HB.out⟩⟩
          case measure => simp only [intOf]; omega
        · have e300 : z = 300 := by omega
          subst e300
          obtain ⟨wo, rfl⟩ : ∃ wo : World, wo = wr := ⟨_, rfl⟩
          go_wp2_with fail
          go_loopw [76] (fun i wr => ∃ k : Nat, k ≤ 10 ∧ i = .int .i64 k ∧ Aside0 (Below (wo.heap.size + 1) (wo.alloc (.cells (ten.map (Value.int .i64)).toArray 3)) wr)) (fun i _ => 10 - (intOf i).toNat)
          case atStart => exact ⟨0, by omega, rfl, ⟨Below.refl _ _⟩⟩
          case round =>
            obtain ⟨k, hk10, rfl, HT⟩ := hrel
            by_cases hlt2 : k < 10
            · have hc : wr.cell? ⟨wo.heap.size, k, none⟩ = some (.int .i64 (ten.getD k 0)) := by
                rw [HT.out.cell (p := ⟨wo.heap.size, k, none⟩) (Nat.lt_succ_self _), cell_of_row _ _ k _ 3 (0, 0) (heap_alloc_new _ _)]
                rcases (show k = 0 ∨ k = 1 ∨ k = 2 ∨ k = 3 ∨ k = 4 ∨ k = 5 ∨ k = 6 ∨ k = 7 ∨ k = 8 ∨ k = 9 by omega) with rfl | rfl | rfl | rfl | rfl | rfl | rfl | rfl | rfl | rfl <;> rfl
              generalize ten.getD k 0 = z at hc
              obtain ⟨s, hs⟩ : ∃ s, numText z = s := ⟨_, rfl⟩
              have HS := hide hs
              clear hs
              have kb : (k : Int) < 10 := by omega
              have hle : wo.heap.size + 1 ≤ wr.heap.size := by have := HT.out.size; simpa using this
              go_wp2_with (first
                | (go_at_call 14; (with_reducible refine (number_is z s HS.out _).mono ?_); rintro e w4 ⟨rfl, hb4⟩; have HB4 := hide hb4; clear hb4; dsimp only)
                | (go_at_call 15; (with_reducible refine (ref_is z s HS.out _).mono ?_); rintro e w5 ⟨rfl, hb5⟩; have HB5 := hide (below_step HB4.out hb5); clear hb5; dsimp only))
              go_roundw
              case rel => exact ⟨k + 1, by omega, by go_num, ⟨HT.out.trans (HB5.out.mono hle)⟩⟩
              case measure => simp only [intOf]; omega
            · have e10 : k = 10 := by omega
              subst e10
              go_wp2_with (go_at_call 11; (with_reducible refine (arbourlaw5_known.calls 60 true _ known_some).mono ?_); rintro e w6 ⟨rfl, hb6⟩; have HB6 := hide hb6; clear hb6; dsimp only)
              go_ret
              exact ⟨rfl, below_step (below_step HB.out ((below_alloc (Below.refl _ _) _).trans (HT.out.mono (by omega)))) HB6.out⟩
end Go.Proofs.Ytjmaiihgjghgjaa.RefsNumbersLaw
