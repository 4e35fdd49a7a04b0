/- The walk of arbourlaw5.RefsLongest: for every text and every number the law returns true, and of what was there nothing has turned. No condition but the reading's own bounds. -/
import Derived.Test.YtjmaiihgjghgjaaRefsPlain
import Derived.WalkSpells
import Derived.BigQuiet
import Derived.Deep.QuietTactic
import Derived.Below
import Derived.IntWalk
import Derived.WalkLawsBesides
namespace Go.Proofs.Ytjmaiihgjghgjaa.RefsLongestLaw
theorem hide {p : Prop} (h : p) : Go.RowKit.Hid p := h
open Go.RowKit Go.Proofs.Ytjmaiihgjghgjaa.PRefsLongest Go.Proofs.Ytjmaiihgjghgjaa.Pure Go.Proofs.YtjmaiihgjghgjaaW.PrintWords Go.Proofs.YtjmaiihgjghgjaaW.PrintLast

theorem N_bound (t : Nat) (ht : t < 51) : (N.getD t ByteArray.empty).size ≤ 100 := by
  have hmem : N.getD t ByteArray.empty ∈ N := by
    rw [List.getD_eq_getElem?_getD, List.getElem?_eq_getElem (by rw [N_len]; exact ht)]
    exact List.getElem_mem _
  simpa using List.all_eq_true.1 N_short _ hmem

theorem named_best (s : ByteArray) (b : S40) (h : best s T = b) : refs_Named.f 60 s = some (b.f1, (b.f0.size : Int)) := by rw [named_some s 60 (by omega), h]
theorem best_facts (t : Nat) (ht : t < 51) (x : ByteArray) (hx : N.getD t ByteArray.empty = x) (h : ByteArray) : ∃ (tx : ByteArray) (n : Nat), refs_Named.f 60 (x ++ h) = some (tx, (n : Int)) ∧ 2 ≤ n ∧ n ≤ (x ++ h).size ∧ (tx.toList == ([] : List UInt8)) = false ∧
    (∀ y ∈ N, pre (x ++ h) y = true → y.size ≤ n) ∧ ∃ j, j < 51 ∧ pre (x ++ h) (N.getD j ByteArray.empty) = true ∧ (N.getD j ByteArray.empty).size = n := by
  have hmem : N.getD t ByteArray.empty ∈ N := by
    rw [List.getD_eq_getElem?_getD, List.getElem?_eq_getElem (by rw [N_len]; exact ht)]
    exact List.getElem_mem _
  rw [hx] at hmem
  have hx2 : 2 ≤ x.size := by simpa using List.all_eq_true.1 N_sizes x hmem
  obtain ⟨b1, _, b3⟩ := best_fold (x ++ h) T ⟨⟨#[]⟩, ⟨#[]⟩⟩
  obtain ⟨p, hp, hpx⟩ : ∃ p ∈ T, p.f0 = x := by
    have : x ∈ T.map S40.f0 := hmem
    simpa using this
  have hpn : 2 ≤ (best (x ++ h) T).f0.size := by
    have := b3 p hp (by rw [hpx]; exact pre_self x h)
    rw [hpx] at this
    exact Nat.le_trans hx2 this
  have hmemb : best (x ++ h) T ∈ T ∧ pre (x ++ h) (best (x ++ h) T).f0 = true := by
    rcases b1 with b1 | b1
    · exfalso
      have e : best (x ++ h) T = ⟨⟨#[]⟩, ⟨#[]⟩⟩ := b1
      rw [e] at hpn
      exact absurd hpn (by decide)
    · exact b1
  have hb3 : ∀ p ∈ T, pre (x ++ h) p.f0 = true → p.f0.size ≤ (best (x ++ h) T).f0.size := b3
  generalize hbst : best (x ++ h) T = b at *
  obtain ⟨hbm, hbp⟩ := hmemb
  have hble : b.f0.size ≤ (x ++ h).size := by
    unfold pre at hbp
    simp only [Bool.and_eq_true, decide_eq_true_eq] at hbp
    exact hbp.1
  have htext : (b.f1.toList == ([] : List UInt8)) = false := by
    have := List.all_eq_true.1 N_texts b hbm
    simpa using this
  have hj : b.f0 ∈ N := List.mem_map_of_mem hbm
  obtain ⟨j, hjl, hje⟩ := List.getElem_of_mem hj
  refine ⟨b.f1, b.f0.size, named_best _ _ hbst, hpn, hble, htext, ?_, j, by rw [N_len] at hjl; exact hjl, ?_, ?_⟩
  · intro y hy hpy
    obtain ⟨q, hq, rfl⟩ : ∃ q ∈ T, q.f0 = y := by simpa [N] using hy
    exact hb3 q hq hpy
  · rw [List.getD_eq_getElem?_getD, List.getElem?_eq_getElem hjl, Option.getD_some, hje]
    exact hbp
  · rw [List.getD_eq_getElem?_getD, List.getElem?_eq_getElem hjl, Option.getD_some, hje]

theorem mem_N (t : Nat) (ht : t < 51) : N.getD t ByteArray.empty ∈ N := by
  rw [List.getD_eq_getElem?_getD, List.getElem?_eq_getElem (by rw [N_len]; exact ht)]
  exact List.getElem_mem _
theorem pre_eq (s y : ByteArray) : pre s y = true ↔ y.size ≤ s.size ∧ ((s.extract 0 y.size).toList == y.toList) = true := by
  unfold pre
  rw [Bool.and_eq_true, decide_eq_true_eq]
theorem begins_cases (s y : ByteArray) (n : Nat) (h : pre s y = true → y.size ≤ n) :
    (pre s y = false ∧ ¬ y.size ≤ s.size ∧ decide (y.size ≤ s.size) = false) ∨
    (pre s y = false ∧ y.size ≤ s.size ∧ decide (y.size ≤ s.size) = true ∧ ((s.extract 0 y.size).toList == y.toList) = false) ∨
    (pre s y = true ∧ y.size ≤ s.size ∧ decide (y.size ≤ s.size) = true ∧ ((s.extract 0 y.size).toList == y.toList) = true ∧ decide (n < y.size) = false ∧ ((y.size : Int) == (n : Int)) = decide (y.size = n)) := by
  by_cases h1 : y.size ≤ s.size
  · by_cases h2 : ((s.extract 0 y.size).toList == y.toList) = true
    · have h3 := (pre_eq s y).2 ⟨h1, h2⟩
      have h4 := h h3
      refine .inr (.inr ⟨h3, h1, decide_eq_true h1, h2, decide_eq_false (by omega), ?_⟩)
      by_cases h5 : y.size = n
      · subst h5; simp
      · rw [decide_eq_false h5]; exact beq_eq_false_iff_ne.2 (by omega)
    · exact .inr (.inl ⟨by rw [Bool.eq_false_iff]; exact fun h => h2 ((pre_eq s y).1 h).2, h1, decide_eq_true h1, by simpa using h2⟩)
  · exact .inl ⟨by rw [Bool.eq_false_iff]; exact fun h => h1 ((pre_eq s y).1 h).1, h1, decide_eq_false h1⟩
def Found (s : ByteArray) (n k : Nat) (fd : Bool) : Prop := fd = true ∨ ∃ j, k ≤ j ∧ j < 51 ∧ pre s (N.getD j ByteArray.empty) = true ∧ (N.getD j ByteArray.empty).size = n

theorem found_step (s : ByteArray) (n k : Nat) (fd : Bool) (hk : k < 51) (y : ByteArray) (hy : N.getD k ByteArray.empty = y) (h : Found s n k fd) : Found s n (k + 1) (fd || (pre s y && decide (y.size = n))) := by
  unfold Found at h ⊢
  rcases h with rfl | ⟨j, h1, h2, h3, h4⟩
  · exact .inl rfl
  · rcases Nat.lt_or_ge k j with hj | hj
    · exact .inr ⟨j, hj, h2, h3, h4⟩
    · have : j = k := by omega
      subst this
      rw [hy] at h3 h4
      exact .inl (by simp [h3, h4])

theorem rising (i : Nat) (h0 : 0 < i) (h : i < 51) : Op.bytesLess ((N.getD (i - 1) ByteArray.empty).toList) ((N.getD i ByteArray.empty).toList) = true := by
  have := List.all_eq_true.1 N_rising i (List.mem_range.2 h)
  simp only [Bool.or_eq_true, beq_iff_eq] at this
  rcases this with this | this
  · omega
  · exact this

set_option maxHeartbeats 400000 in
set_option maxRecDepth 100000 in
theorem law (a0 : ByteArray) (a1 : Int) (w : World) (_h0 : a0.size ≤ 140737488351232) (ha : (Lit.int .i64 a1).wf = true) :
    Calls Try.prog 3 #[.string a0, .int .i64 a1] w fun e w' => e = .returned (.bool true) ∧ Below w.heap.size w w' := by
  obtain ⟨t, ht, hw⟩ := within_some a1 ha
  obtain ⟨hd, hh, hhead⟩ := head_some a0
  have HW := hide hw; clear hw
  have HH := hide hhead; clear hhead
  go_enter Try.func3, Try.ntmps3
  go_wp2_with fail
  refine (refs_All.calls 60 N _ all_some).mono ?_
  rintro e w1 ⟨v, rfl, hR, hb1⟩
  obtain ⟨A, c, rfl, hc, hC⟩ := Kd.R_reads hR
  rw [N_len] at hC hc ⊢
  have HB := hide hb1
  clear hb1 hR
  have HC := hide (Kd.reads_of_C (d := ByteArray.empty) hC)
  clear hC
  go_wp2_with fail
  have e50 : IntKind.i64.wrap (50 : Int) = 50 := by decide
  obtain ⟨ad, rfl, hcell0⟩ := HC.out.at_ (t : Int) (by omega) (by omega)
  rw [rd_N, Int.toNat_natCast] at hcell0
  have hx100 := N_bound t ht
  generalize hx : N.getD t ByteArray.empty = x at hcell0 hx100
  have HX := hide hx; clear hx
  have p1 : 0 ≤ (t : Int) := by omega
  have p4 : x.size + hd.size ≤ 9223372036854775807 := by omega
  have p2 : (t : Int) < 51 := by omega
  have p3 : t < 51 := ht
  go_quiet (first | (go_at_call 8; (with_reducible refine (arbourbook_Within.calls a1 0 50 (t : Int) _ HW.out).mono ?_); rintro e w' ⟨rfl, ⟨nd, rfl⟩⟩; exact ⟨rfl, _, World.drewN_drewN _ _ _⟩) | (go_at_call 9; (with_reducible refine (arbourkeep_Head.calls a0 20 hd _ HH.out).mono ?_); rintro e w' ⟨rfl, ⟨nd, rfl⟩⟩; exact ⟨rfl, _, World.drewN_drewN _ _ _⟩))
  have hbf := best_facts t ht x HX.out hd
  have hsz : (x ++ hd).size ≤ 200 := by rw [ByteArray.size_append]; omega
  generalize hs : x ++ hd = s at hbf hsz ⊢
  clear hs
  obtain ⟨tx, n, hbm, hb2, hble, hbt, hbmax, j, hj, hjp, hjs⟩ := hbf
  have HT := hide hbt; clear hbt
  have HM := hide hbmax; clear hbmax
  have HN := hide hbm; clear hbm
  have HJ := hide hjp; clear hjp
  have HJS := hide hjs; clear hjs
  go_wp2_with fail
  refine (refs_Named.calls 60 s tx (n : Int) _ HN.out).mono ?_
  rintro e w2 ⟨rfl, hb2w⟩
  have e1 : Below w.heap.size w w2 := below_step (pw_below_drewN HB.out _) hb2w
  have e2 : ReadsOf Value.string ByteArray.empty w2 (some ad) 51 N := ReadsOf.below (w := w1.drewN nq) HC.out hb2w
  have HB2 := hide e1
  have HC2 := hide e2
  clear e1 e2
  clear hb2w HB HC hcell0 HW HH HX
  have q1 : decide ((n : Int) < 2) = false := decide_eq_false (by omega)
  have q2 : (n : Int) ≤ (s.size : Int) := by omega
  have q3 := HT.out
  dsimp only
  go_wp2_with fail
  go_loopw [8, 9] (fun f i wr => ∃ (k : Nat) (fd : Bool), k ≤ 51 ∧ i = .int .i64 k ∧ f = .bool fd ∧ Aside0 (Found s n k fd) ∧ Aside0 (ReadsOf Value.string ByteArray.empty wr (some ad) 51 N) ∧ Aside0 (Below w.heap.size w wr)) (fun _ i _ => 51 - (intOf i).toNat)
  case atStart => exact ⟨0, false, by omega, rfl, rfl, ⟨.inr ⟨j, by omega, hj, HJ.out, HJS.out⟩⟩, ⟨HC2.out⟩, ⟨HB2.out⟩⟩
  case round =>
    clear HC2 HB2 HJ HJS q1 q2 q3 HT HN hj hx100 hh _h0 ha hsz e50 p1 p2 p3 p4
    obtain ⟨k, fd, hk, rfl, rfl, HF, HC, HB⟩ := hrel
    by_cases hlt : k < 51
    · obtain ⟨_, e, hck⟩ := HC.out.at_ (k : Int) (by omega) (by omega)
      cases e
      rw [rd_N, Int.toNat_natCast] at hck
      obtain ⟨y, hy⟩ : ∃ y, N.getD k ByteArray.empty = y := ⟨_, rfl⟩
      rw [hy] at hck
      have HY := hide hy
      clear hy
      have ek : IntKind.i64.wrap ((k : Int) + 1) = (k : Int) + 1 := IntWalk.i64_in _ (by omega)
      have p1 : 0 ≤ (k : Int) := by omega
      have p2 : (k : Int) < 51 := by omega
      have hstep := found_step s n k fd hlt y HY.out HF.out
      have HS := hide hstep
      clear hstep HF
      rcases begins_cases s y n (HM.out y (by rw [← HY.out]; exact mem_N k hlt)) with ⟨g2, g1, g3⟩ | ⟨g2, g1, g3, g4⟩ | ⟨g2, g1, g3, g4, g5, g6⟩
      all_goals
        have GP := hide g2
        clear g2
        cases fd
        all_goals
          by_cases h0 : 0 < k
          · obtain ⟨_, e, hcp⟩ := HC.out.at_ ((k : Int) - 1) (by omega) (by omega)
            cases e
            obtain ⟨z, hz⟩ : ∃ z, rdOf ByteArray.empty N ((k : Int) - 1) = z := ⟨_, rfl⟩
            rw [hz] at hcp
            have hr : Op.bytesLess z.toList y.toList = true := by
              have := rising k h0 hlt
              rw [HY.out] at this
              rw [← hz, show ((k : Int) - 1) = ((k - 1 : Nat) : Int) by omega, rd_N]
              exact this
            clear hz
            have hg : decide ((0 : Int) < (k : Int)) = true := decide_eq_true (by omega)
            have e1 : IntKind.i64.wrap ((k : Int) - 1) = (k : Int) - 1 := IntWalk.i64_in _ (by omega)
            have p3 : 1 ≤ (k : Int) := by omega
            rw [show ((k : Int) - 1).toNat = k - 1 by omega] at hcp
            go_wp2_with (go_quiet (fail))
            go_roundw
            case rel => exact ⟨k + 1, _, by omega, by go_num, rfl, ⟨by simpa [GP.out] using HS.out⟩, ⟨HC.out.drewN _⟩, ⟨pw_below_drewN HB.out _⟩⟩
            case measure => simp [intOf]; omega
          · have hg : decide ((0 : Int) < (k : Int)) = false := decide_eq_false (by omega)
            go_wp2_with (go_quiet (fail))
            go_roundw
            case rel => exact ⟨k + 1, _, by omega, by go_num, rfl, ⟨by simpa [GP.out] using HS.out⟩, ⟨HC.out.drewN _⟩, ⟨pw_below_drewN HB.out _⟩⟩
            case measure => simp [intOf]; omega
    · have hf : fd = true := by
        rcases HF.out with h | ⟨j', h1, h2, _⟩
        · exact h
        · omega
      obtain rfl : k = 51 := by omega
      subst hf
      clear HM
      go_wp2_with (go_at_call 11; (with_reducible refine (arbourlaw5_known.calls 60 true _ known_some).mono ?_); rintro e w3 ⟨rfl, hb3⟩; have HB3 := hide (below_step HB.out hb3); clear hb3)
      go_ret
      exact ⟨rfl, HB3.out⟩

end Go.Proofs.Ytjmaiihgjghgjaa.RefsLongestLaw
