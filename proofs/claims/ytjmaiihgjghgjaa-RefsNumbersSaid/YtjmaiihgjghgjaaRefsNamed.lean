import Derived.Test.YtjmaiihgjghgjaaRefsAll
namespace Go.Proofs.Ytjmaiihgjghgjaa.RefsRef
open Go.RowKit Go.Proofs.Ytjmaiihgjghgjaa.PRefsLongest Go.Proofs.Ytjmaiihgjghgjaa.Pure Go.Proofs.Ytjmaiihgjghgjaa.RefsNumber Go.Proofs.YtjmaiihgjghgjaaW.PrintWords Go.Proofs.YtjmaiihgjghgjaaW.PrintLast

def St (s : ByteArray) (k : Nat) (bt : ByteArray) (n : Nat) : Prop := ((T.take k).foldl (Pure.step s) S0).f1 = bt ∧ ((T.take k).foldl (Pure.step s) S0).f0.size = n
theorem st_next (s : ByteArray) (k : Nat) (hk : k < 51) : (T.take (k + 1)).foldl (Pure.step s) S0 = Pure.step s ((T.take k).foldl (Pure.step s) S0) (T.getD k S0) := by
  have hl : k < T.length := by rw [T_len]; exact hk
  rw [List.take_succ_eq_append_getElem hl, List.foldl_append, List.getD_eq_getElem?_getD, List.getElem?_eq_getElem hl]
  rfl
theorem st_keep {s bt : ByteArray} {k n : Nat} (h : St s k bt n) (hk : k < 51) (hn : ¬ (n < (T.getD k S0).f0.size ∧ pre s (T.getD k S0).f0 = true)) : St s (k + 1) bt n := by
  unfold St at h ⊢
  rw [st_next s k hk]
  generalize (T.take k).foldl (Pure.step s) S0 = b at h ⊢
  obtain ⟨h1, h2⟩ := h
  unfold Pure.step
  rw [if_neg (by rw [h2]; exact hn)]
  exact ⟨h1, h2⟩
theorem st_take {s bt : ByteArray} {k n : Nat} (h : St s k bt n) (hk : k < 51) (hn : n < (T.getD k S0).f0.size ∧ pre s (T.getD k S0).f0 = true) : St s (k + 1) (T.getD k S0).f1 (T.getD k S0).f0.size := by
  unfold St at h ⊢
  rw [st_next s k hk]
  generalize (T.take k).foldl (Pure.step s) S0 = b at h ⊢
  obtain ⟨h1, h2⟩ := h
  unfold Pure.step
  rw [if_pos (by rw [h2]; exact hn)]
  exact ⟨rfl, rfl⟩
theorem st_end {s bt : ByteArray} {n : Nat} (h : St s 51 bt n) : (best s T).f1 = bt ∧ (best s T).f0.size = n := by
  unfold St at h
  rw [List.take_of_length_le (by rw [T_len]; omega)] at h
  exact h
theorem pre_eq (s y : ByteArray) : pre s y = true ↔ y.size ≤ s.size ∧ ((s.extract 0 y.size).toList == y.toList) = true := by
  unfold pre
  rw [Bool.and_eq_true, decide_eq_true_eq]
theorem st_cases {s bt : ByteArray} {k n : Nat} (h : St s k bt n) (hk : k < 51) {y tx : ByteArray} (hy : (T.getD k S0).f0 = y) (htx : (T.getD k S0).f1 = tx) :
    (decide (n < y.size) = false ∧ St s (k + 1) bt n) ∨
    (decide (n < y.size) = true ∧ ¬ y.size ≤ s.size ∧ decide (y.size ≤ s.size) = false ∧ St s (k + 1) bt n) ∨
    (decide (n < y.size) = true ∧ y.size ≤ s.size ∧ decide (y.size ≤ s.size) = true ∧ ((s.extract 0 y.size).toList == y.toList) = false ∧ St s (k + 1) bt n) ∨
    (decide (n < y.size) = true ∧ y.size ≤ s.size ∧ decide (y.size ≤ s.size) = true ∧ ((s.extract 0 y.size).toList == y.toList) = true ∧ St s (k + 1) tx y.size) := by
  subst hy htx
  by_cases h0 : n < (T.getD k S0).f0.size
  · by_cases h1 : (T.getD k S0).f0.size ≤ s.size
    · by_cases h2 : ((s.extract 0 (T.getD k S0).f0.size).toList == (T.getD k S0).f0.toList) = true
      · exact .inr (.inr (.inr ⟨decide_eq_true h0, h1, decide_eq_true h1, h2, st_take h hk ⟨h0, (pre_eq _ _).2 ⟨h1, h2⟩⟩⟩))
      · exact .inr (.inr (.inl ⟨decide_eq_true h0, h1, decide_eq_true h1, by simpa using h2, st_keep h hk (fun hp => h2 ((pre_eq _ _).1 hp.2).2)⟩))
    · exact .inr (.inl ⟨decide_eq_true h0, h1, decide_eq_false h1, st_keep h hk (fun hp => h1 ((pre_eq _ _).1 hp.2).1)⟩)
  · exact .inl ⟨decide_eq_false h0, st_keep h hk (fun hp => h0 hp.1)⟩

def NamedPost (s : ByteArray) (w : World) (e : Ending) (w' : World) : Prop := e = .returned (.tuple #[.string (best s T).f1, .int .i64 ((best s T).f0.size : Nat)]) ∧ Below w.heap.size w w'

set_option maxHeartbeats 1000000 in
set_option maxRecDepth 100000 in
theorem named (s : ByteArray) (w : World) : Calls Try.prog 20 #[.string s] w (NamedPost s w) := by
  go_enter Try.func20, Try.ntmps20
  go_wp2_with (go_at_call 19; refine (table _).mono ?_; rintro e w1 ⟨rfl, rfl⟩)
  go_loopw [5, 6, 7] (fun b nn i wr => ∃ (k m n : Nat) (bt : ByteArray), Hid (m = 2 * k) ∧ k ≤ 51 ∧ m ≤ 102 ∧ i = .int .i64 m ∧ b = .string bt ∧ nn = .int .i64 n ∧ Aside0 (St s k bt n) ∧ Aside0 (Below (w.heap.size + 1) (w.alloc (.cells C2 9)) wr)) (fun _ _ i _ => 102 - (intOf i).toNat)
  case atStart => exact ⟨0, 0, 0, ⟨#[]⟩, hide rfl, by omega, by omega, rfl, rfl, rfl, ⟨⟨rfl, rfl⟩⟩, ⟨Below.refl _ _⟩⟩
  case round =>
    obtain ⟨k, m, n, bt, HM, hk, hm, rfl, rfl, rfl, HS, HB⟩ := hrel
    by_cases hlt : m < 102
    · have hk2 : k < 51 := by have := HM.out; omega
      have em : m + 2 = 2 * (k + 1) := by have h := HM.out; omega
      have hm2 : m + 2 ≤ 102 := by omega
      obtain ⟨y, hy⟩ : ∃ y, (T.getD k S0).f0 = y := ⟨_, rfl⟩
      obtain ⟨tx, htx⟩ : ∃ y, (T.getD k S0).f1 = y := ⟨_, rfl⟩
      have hc := cell_kept HB.out m
      have hc1 := cell_kept HB.out (m + 1)
      have hc2 := c2_get k hk2
      rw [HM.out] at hc hc1
      rw [hc2.1, hy, ← HM.out] at hc
      rw [hc2.2, htx, ← HM.out] at hc1
      clear hc2
      have HM2 := hide em
      clear em
      rcases st_cases HS.out hk2 hy htx with ⟨g1, hst⟩ | ⟨g1, g2, g3, hst⟩ | ⟨g1, g2, g3, g4, hst⟩ | ⟨g1, g2, g3, g4, hst⟩
      all_goals
        have HS2 := hide hst
        clear hst hy htx
        go_wp2_with (go_quiet (fail))
        go_roundw
        case rel => exact ⟨k + 1, m + 2, _, _, HM2, by omega, hm2, by go_num, rfl, rfl, ⟨HS2.out⟩, ⟨pw_below_drewN HB.out _⟩⟩
        case measure => simp only [intOf]; omega
    · have e51 : k = 51 := by have := HM.out; omega
      have e102 : m = 102 := by omega
      subst e51 e102
      obtain ⟨q1, q2⟩ := st_end HS.out
      have Q1 := hide q1
      have Q2 := hide q2
      clear q1 q2
      go_wp2
      go_ret2
      exact ⟨by rw [Q1.out, Q2.out]; rfl, below_step (below_alloc (Below.refl _ _) _) (HB.out.mono (by simp))⟩

/-- One text: both find the same. -/
theorem same (s : ByteArray) (w : World) : Calls Try.prog 13 #[.string s] w fun e w' => e = .returned (.bool true) ∧ Below w.heap.size w w' := by
  obtain ⟨tx, htx⟩ : ∃ t, (best s T).f1 = t := ⟨_, rfl⟩
  obtain ⟨n, hn⟩ : ∃ t, (best s T).f0.size = t := ⟨_, rfl⟩
  have h1 : refs_Named.f 60 s = some (tx, (n : Int)) := by rw [named_some s 60 (by omega), htx, hn]
  have h2 : ∀ w e w', NamedPost s w e w' → e = .returned (.tuple #[.string tx, .int .i64 n]) ∧ Below w.heap.size w w' := by
    intro w e w' h
    unfold NamedPost at h
    rw [htx, hn] at h
    exact h
  have H1 := hide h1
  have H2 := hide h2
  clear h1 h2 htx hn
  go_enter Try.func13, Try.ntmps13
  go_wp2_with (first | (go_at_call 10; refine (refs_Named.calls 60 s tx (n : Int) _ H1.out).mono ?_; rintro e w1 ⟨rfl, hb1⟩; dsimp only) | (go_at_call 20; refine ((named s _).mono (H2.out _)).mono ?_; rintro e w2 ⟨rfl, hb2⟩; dsimp only))
  go_ret
  exact ⟨by simp, below_step hb1 hb2⟩
end Go.Proofs.Ytjmaiihgjghgjaa.RefsRef
