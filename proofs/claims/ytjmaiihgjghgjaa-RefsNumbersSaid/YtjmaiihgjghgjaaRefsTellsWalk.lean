/- The walk of arbourlaw5.RefsTells: for every text and all numbers the law returns true, and nothing that was there has turned. No condition. -/
import Derived.Test.YtjmaiihgjghgjaaRefsNamed
namespace Go.Proofs.Ytjmaiihgjghgjaa.RefsTellsLaw
open Go.RowKit Go.Proofs.Ytjmaiihgjghgjaa.PRefsLongest Go.Proofs.Ytjmaiihgjghgjaa.Pure Go.Proofs.Ytjmaiihgjghgjaa.RefsRef Go.Proofs.Ytjmaiihgjghgjaa.RefsNumber Go.Proofs.YtjmaiihgjghgjaaW.PrintWords Go.Proofs.YtjmaiihgjghgjaaW.PrintLast

theorem number_is (n : Int) (s : ByteArray) (h : numText n = s) (w : World) :
    Calls Try.prog 14 #[.int .i64 n] w fun e w' => e = .returned (.string s) ∧ Below w.heap.size w w' := h ▸ number_any n w
theorem ref_is (n : Int) (s : ByteArray) (h : numText n = s) (w : World) :
    Calls Try.prog 15 #[.int .i64 n] w fun e w' => e = .returned (.string s) ∧ Below w.heap.size w w' := h ▸ ref_any n w

theorem within_gen (a hi : Int) (h0 : 0 ≤ hi) (h1 : hi < 4611686018427387904) : ∃ t : Int, 0 ≤ t ∧ t ≤ hi ∧ arbourbook_Within.f a 0 hi = some t := by
  have e1 : wrap64 (wrap64 (hi - 0) + 1) = hi + 1 := by unfold wrap64; omega
  have h3 : (Int.tmod a (hi + 1)) < hi + 1 := Int.tmod_lt_of_pos a (by omega : (0 : Int) < hi + 1)
  have h2 : -(hi + 1) < Int.tmod a (hi + 1) := Int.lt_tmod_of_pos a (by omega : (0 : Int) < hi + 1)
  unfold arbourbook_Within.f
  rw [e1, if_neg (by omega)]
  generalize Int.tmod a (hi + 1) = r at *
  by_cases h : r < 0
  · rw [if_pos h]
    refine ⟨r + hi + 1, by omega, by omega, ?_⟩
    have : wrap64 (0 + wrap64 (wrap64 (wrap64 (r + hi) - 0) + 1)) = r + hi + 1 := by unfold wrap64; omega
    rw [this]
  · rw [if_neg h]
    refine ⟨r, by omega, by omega, ?_⟩
    have : wrap64 (0 + r) = r := by unfold wrap64; omega
    rw [this]

theorem head_gen (a : ByteArray) (m : Int) (hm : 0 ≤ m) : ∃ h : ByteArray, h.size ≤ m.toNat ∧ arbourkeep_Head.f a m = some h := by
  unfold arbourkeep_Head.f
  by_cases h : (a.size : Int) > m
  · rw [if_pos h, if_pos (by omega), if_pos (by omega)]
    refine ⟨_, ?_, rfl⟩
    simp
    omega
  · rw [if_neg h]
    exact ⟨a, by omega, rfl⟩

theorem N_bound (t : Nat) (ht : t < 51) : (N.getD t ByteArray.empty).size ≤ 100 := by
  have hmem : N.getD t ByteArray.empty ∈ N := by
    rw [List.getD_eq_getElem?_getD, List.getElem?_eq_getElem (by rw [N_len]; exact ht)]
    exact List.getElem_mem _
  simpa using List.all_eq_true.1 N_short _ hmem
theorem rd_N (i : Nat) : rdOf ByteArray.empty N (i : Int) = N.getD i ByteArray.empty := by simp [rdOf]

set_option maxHeartbeats 1000000 in
set_option maxRecDepth 100000 in
theorem law (a0 : ByteArray) (a1 a2 : Int) (w : World) :
    Calls Try.prog 4 #[.string a0, .int .i64 a1, .int .i64 a2] w fun e w' => e = .returned (.bool true) ∧ Below w.heap.size w w' := by
  obtain ⟨hd, hh, hhead⟩ := head_gen a0 60 (by omega)
  obtain ⟨t, ht0, ht, hw⟩ := within_gen a1 50 (by omega) (by omega)
  obtain ⟨u, hu0, hu, hwu⟩ := within_gen a2 1114128 (by omega) (by omega)
  obtain ⟨s1, hs1⟩ : ∃ s, numText a2 = s := ⟨_, rfl⟩
  obtain ⟨s2, hs2⟩ : ∃ s, numText u = s := ⟨_, rfl⟩
  have HH := hide hhead
  have HW := hide hw
  have HU := hide hwu
  have H1 := hide hs1
  have H2 := hide hs2
  clear hhead hw hwu hs1 hs2
  obtain ⟨j, rfl⟩ := Int.eq_ofNat_of_zero_le ht0
  have hj : j < 51 := by omega
  clear ht0
  have hN := N_bound j hj
  obtain ⟨x, hx⟩ : ∃ x, N.getD j ByteArray.empty = x := ⟨_, rfl⟩
  rw [hx] at hN
  have HX := hide hx
  clear hx
  have hx1 := hN
  have p4 : x.size + hd.size ≤ 9223372036854775807 := by omega
  have HB := hide (Below.refl w.heap.size w)
  have e50 : IntKind.i64.wrap (50 : Int) = 50 := by decide
  go_enter Try.func4, Try.ntmps4
  go_wp2_with (go_at_call 9; (with_reducible refine (arbourkeep_Head.calls a0 60 hd _ HH.out).mono ?_); rintro e w' ⟨rfl, ⟨nd, rfl⟩⟩)
  refine (all _).mono ?_
  rintro e w1 ⟨A, c, rfl, hC, hb1⟩
  rw [N_len] at hC ⊢
  have HB1 := hide (show Below w.heap.size w w1 from below_step (pw_below_drewN (Below.refl _ _) _) hb1)
  obtain ⟨ad, e, hcell0⟩ := hC.at_ (j : Int) (by omega) (by omega)
  cases e
  rw [rd_N, HX.out, Int.toNat_natCast] at hcell0
  clear hb1 hC HB
  dsimp only
  go_wp2_with (first
    | (go_at_call 8; (first | (with_reducible refine (arbourbook_Within.calls a1 0 50 (j : Int) _ HW.out).mono ?_) | (with_reducible refine (arbourbook_Within.calls a2 0 1114128 u _ HU.out).mono ?_)); rintro e w' ⟨rfl, ⟨nd, rfl⟩⟩; dsimp only)
    | (go_at_call 13; (refine (same _ _).mono ?_); rintro e w3 ⟨rfl, hb3⟩; have HB3 := hide (below_step (by first | exact HB1.out | exact pw_below_drewN HB1.out _) hb3); clear HB1 hb3; have HB1 := HB3; clear HB3; dsimp only)
    | (go_at_call 14; (first | (with_reducible refine (number_is a2 s1 H1.out _).mono ?_) | (with_reducible refine (number_is u s2 H2.out _).mono ?_)); rintro e w3 ⟨rfl, hb3⟩; have HB3 := hide (below_step (by first | exact HB1.out | exact pw_below_drewN HB1.out _) hb3); clear HB1 hb3; have HB1 := HB3; clear HB3; dsimp only)
    | (go_at_call 15; (first | (with_reducible refine (ref_is a2 s1 H1.out _).mono ?_) | (with_reducible refine (ref_is u s2 H2.out _).mono ?_)); rintro e w3 ⟨rfl, hb3⟩; have HB3 := hide (below_step (by first | exact HB1.out | exact pw_below_drewN HB1.out _) hb3); clear HB1 hb3; have HB1 := HB3; clear HB3; dsimp only)
    | (go_at_call 11; (with_reducible refine (arbourlaw5_known.calls 60 true _ known_some).mono ?_); rintro e w3 ⟨rfl, hb3⟩; have HB3 := hide (below_step HB1.out hb3); clear HB1 hb3; have HB1 := HB3; clear HB3; dsimp only))
  go_ret
  exact ⟨rfl, HB1.out⟩
end Go.Proofs.Ytjmaiihgjghgjaa.RefsTellsLaw
