/- The walk of attrs.Alike. -/
import Derived.Test.YtgjnopabdipleaaAttrsForeignWalk
namespace Go.Proofs.Ytgjnopabdipleaa.Attrs
open Go.RowKit Go.Proofs.Ytgjnopabdipleaa.PAttrsTells Go.Proofs.YtgjnopabdipleaaW.PrintWords Go.Proofs.YtgjnopabdipleaaW.PrintLast

def has2 (vs : List S29) (x : S29) : Bool := decide (0 ≤ fnd vs x.f0) && ((vs.getD (fnd vs x.f0).toNat z29).f1.toList == x.f1.toList)
def alikeU (us vs : List S29) : Bool := decide (us.length = vs.length) && us.all (has2 vs)
def alikeL (xs ys : List S29) : Bool := alikeU (moreL [] xs) (moreL [] ys)
theorem all_step (us vs : List S29) (k : Nat) (h : k < us.length) : (us.drop k).all (has2 vs) = (has2 vs (us.getD k z29) && (us.drop (k + 1)).all (has2 vs)) := by
  rw [List.drop_eq_getElem_cons h, List.all_cons, List.getD_eq_getElem?_getD, List.getElem?_eq_getElem h]
  rfl

set_option maxHeartbeats 1000000 in
set_option maxRecDepth 100000 in
theorem alike (A B : Option Addr) (c d : Nat) (xs ys : List S29) (w : World) (h : Rds w A c xs) (hy : Rds w B d ys) (hn : xs.length * 32 ≤ 140737488351232) (hm : ys.length * 32 ≤ 140737488351232) :
    Calls Try.prog 14 #[.slice A xs.length c, .slice B ys.length d] w fun e w' => e = .returned (.bool (alikeL xs ys)) ∧ Below w.heap.size w w' := by
  have HX := hide h
  have HY := hide hy
  clear h hy
  unfold alikeL
  have hul := moreL_len [] xs
  have hvl := moreL_len [] ys
  have HNN := hide hn
  have HMM := hide hm
  simp only [List.length_nil, Nat.zero_add] at hul hvl
  obtain ⟨us, hus⟩ : ∃ us, moreL [] xs = us := ⟨_, rfl⟩
  obtain ⟨vs, hvs⟩ : ∃ us, moreL [] ys = us := ⟨_, rfl⟩
  rw [hus] at hul ⊢
  rw [hvs] at hvl ⊢
  have hul2 : us.length * 32 ≤ 140737488351232 := by omega
  have hvl2 : vs.length * 32 ≤ 140737488351232 := by omega
  have HU := hide hus
  have HV := hide hvs
  clear hus hvs hul hvl hn hm
  obtain ⟨r, hr⟩ : ∃ r, alikeU us vs = r := ⟨_, rfl⟩
  rw [hr]
  unfold alikeU at hr
  have HRR := hide hr
  clear hr
  go_enter Try.func14, Try.ntmps14
  go_wp2_with fail
  refine (unique A c xs _ HX.out HNN.out).mono ?_
  rw [HU.out]
  rintro e w1 ⟨v, rfl, hR, hb1⟩
  have HB1 := hide hb1
  have HY1 := hide (show Rds w1 B d ys from ⟨Kd.C_below HY.out.1 hb1, HY.out.2⟩)
  have HR1 := hide hR
  clear hR hb1
  dsimp only
  go_wp2_with fail
  refine (unique B d ys _ HY1.out HMM.out).mono ?_
  rw [HV.out]
  rintro e w2 ⟨v2, rfl, hR, hb2⟩
  obtain ⟨A1, c1, rfl, hl1, hC1⟩ := Kd.R_reads (Kd.R_below HR1.out hb2)
  obtain ⟨A2, c2, rfl, hl2, hC2⟩ := Kd.R_reads hR
  have HB2 := hide (below_step HB1.out hb2)
  have HC1 := hide hC1
  have HC2 := hide (show Rds w2 A2 c2 vs from ⟨hC2, hl2⟩)
  clear hR hb2 HR1 HY1 HB1 hC1 hC2 HX HY
  dsimp only
  obtain ⟨n, hun⟩ : ∃ n, us.length = n := ⟨_, rfl⟩
  obtain ⟨m, hvn⟩ : ∃ n, vs.length = n := ⟨_, rfl⟩
  have HN := hide hun
  have HM := hide hvn
  have HR2 := HRR.out
  rw [hun, hvn] at HR2
  rw [hun] at hul2 hl1
  rw [hvn] at hvl2 hl2
  rw [hun, hvn]
  clear hun hvn HRR
  by_cases hnm : n = m
  · subst hnm
    rw [decide_eq_true rfl, Bool.true_and] at HR2
    have HR := hide HR2
    clear HR2
    go_wp2_with fail
    go_loopw [19] (fun i wr => ∃ k : Nat, k ≤ n ∧ i = .int .i64 k ∧ Aside0 ((us.drop k).all (has2 vs) = r) ∧ Aside0 (Below w2.heap.size w2 wr)) (fun i _ => n - (intOf i).toNat)
    case atStart => exact ⟨0, by omega, rfl, ⟨by rw [List.drop_zero]; exact HR.out⟩, ⟨Below.refl _ _⟩⟩
    case round =>
      clear HR
      obtain ⟨k, hk, rfl, HF, HB⟩ := hrel
      by_cases hlt : k < n
      · have hkl : k < us.length := by rw [HN.out]; exact hlt
        obtain ⟨ad, hA, hc0, hc1⟩ := at_T29 (Kd.C_below HC1.out HB.out) (k : Int) (by omega) (by rw [HN.out]; omega)
        subst hA
        have hstep := all_step us vs k hkl
        rw [HF.out] at hstep
        unfold rd_T29 at hc0 hc1
        rw [Int.toNat_natCast] at hc0 hc1
        obtain ⟨x, hx⟩ : ∃ x, us.getD k z29 = x := ⟨_, rfl⟩
        rw [hx] at hc0 hc1 hstep
        obtain ⟨a, b⟩ := x
        unfold has2 at hstep
        dsimp only at hc0 hc1 hstep
        have hfl := fnd_lt vs a
        obtain ⟨q, hq⟩ : ∃ q, fnd vs a = q := ⟨_, rfl⟩
        rw [hq] at hstep hfl
        have HQ := hide hq
        clear hq hx HF
        have k1 : (k : Int) < n := by omega
        have hbl : Below wr.heap.size wr (wr.alloc (.cells #[.string a, .string b] 29)) := below_alloc (Below.refl _ _) _
        have HC3 := hide (show Rds (wr.alloc (.cells #[.string a, .string b] 29)) A2 c2 vs from ⟨Kd.C_below HC2.out.1 (below_step HB.out hbl), HC2.out.2⟩)
        have HST := hide hstep
        clear hstep hbl
        go_wp2_with fail
        rw [show n = vs.length from HM.out.symm]
        refine (find A2 c2 vs a _ HC3.out).mono ?_
        rw [HQ.out, HM.out]
        rintro e w3 ⟨rfl, hb3⟩
        have hx1 : w3.cell? ⟨wr.heap.size, 1, none⟩ = some (.string b) := by
          rw [hb3.cell (p := ⟨wr.heap.size, 1, none⟩) (by simp), cell_of_row _ _ 1 _ 29 (0, 0) (heap_alloc_new _ _)]; rfl
        have hb4 : Below wr.heap.size wr w3 := below_step (below_alloc (Below.refl _ _) _) hb3
        have HB3 := hide (below_step HB.out hb4)
        clear hb3 hb4 hc0 hc1 HC3
        have hst := HST.out
        clear HST
        rcases hfl with rfl | ⟨hq0, hq1⟩
        · have hrf : r = false := by rw [hst]; rfl
          subst hrf
          clear hst
          have hd : decide ((-1 : Int) < 0) = true := rfl
          go_wp2_with (go_quiet (fail))
          go_ret
          exact ⟨rfl, pw_below_drewN (below_step HB2.out HB3.out) _⟩
        · obtain ⟨j, rfl⟩ := Int.eq_ofNat_of_zero_le hq0
          obtain ⟨bd, hA, _, hd1⟩ := at_T29 (Kd.C_below HC2.out.1 HB3.out) (j : Int) hq0 hq1
          subst hA
          unfold rd_T29 at hd1
          rw [Int.toNat_natCast] at hd1 hst
          rw [decide_eq_true hq0, Bool.true_and] at hst
          obtain ⟨t, ht⟩ : ∃ t, (vs.getD j z29).f1 = t := ⟨_, rfl⟩
          rw [ht] at hd1 hst
          clear ht
          rw [HM.out] at hq1
          have hd : decide ((j : Int) < 0) = false := decide_eq_false (by omega)
          cases hcmp : (t.toList == b.toList) with
          | false =>
            rw [hcmp, Bool.false_and] at hst
            subst hst
            have hne : (t.toList != b.toList) = true := by simpa using hcmp
            go_wp2_with (go_quiet (fail))
            go_ret
            exact ⟨rfl, pw_below_drewN (below_step HB2.out HB3.out) _⟩
          | true =>
            rw [hcmp, Bool.true_and] at hst
            have HST := hide hst
            clear hst
            have hne : (t.toList != b.toList) = false := by simpa using hcmp
            go_wp2_with (go_quiet (fail))
            go_roundw
            case rel => exact ⟨k + 1, by omega, by go_num, ⟨HST.out.symm⟩, ⟨pw_below_drewN HB3.out _⟩⟩
            case measure => simp only [intOf]; omega
      · have hke : (us.drop k).all (has2 vs) = true := by rw [List.drop_of_length_le (by rw [HN.out]; omega)]; rfl
        have hrt : r = true := by rw [← HF.out, hke]
        subst hrt
        clear HF hke
        go_wp2_with fail
        go_ret
        exact ⟨rfl, below_step HB2.out HB.out⟩
  · have hrf : r = false := by rw [← HR2, decide_eq_false hnm, Bool.false_and]
    subst hrf
    clear HR2
    have hb1 : ((n : Int) == (m : Int)) = false := beq_eq_false_iff_ne.2 (by omega)
    have hb2 : ((n : Int) != (m : Int)) = true := bne_iff_ne.2 (by omega)
    have hb3 : (n != m) = true := bne_iff_ne.2 hnm
    have hb4 : (n == m) = false := beq_eq_false_iff_ne.2 hnm
    clear hnm
    go_wp2_with fail
    go_ret
    exact ⟨rfl, HB2.out⟩
end Go.Proofs.Ytgjnopabdipleaa.Attrs
