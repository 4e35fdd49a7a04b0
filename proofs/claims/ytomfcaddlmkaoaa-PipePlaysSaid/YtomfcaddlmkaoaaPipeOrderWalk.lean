/- The walk of the law PipeOrder: true. -/
import Derived.Test.YtomfcaddlmkaoaaPipeRoomsWalk
namespace Go.Proofs.Ytomfcaddlmkaoaa.Pipe
open Go.RowKit Go.Conc Go.Proofs.YtomfcaddlmkaoaaW.PrintWords Go.Proofs.YtomfcaddlmkaoaaW.PrintLast

/-- Two rows lie in different blocks. -/
def Sep (u v : Value) : Prop := ∀ k, u.ownBlock = some k → v.ownBlock ≠ some k
theorem Sep.symm {u v : Value} (h : Sep u v) : Sep v u := fun k h1 h2 => h k h2 h1
theorem R_sep {α : Type} {enc : α → Value} {h1 : ∀ x, (enc x).oneCell' = true} {e base : Nat} {w w1 : World} {u v : Value} {xs : List α} (h : (Kd.scalar enc h1).R e w base (fun _ => True) v xs) (hs : Sep u v) (hg : w.grownBy w1 u.ownBlock) : (Kd.scalar enc h1).R e w1 base (fun _ => True) v xs :=
  Kd.R_mono (Kd.R_grown (Kd.R_of_own (ok := fun k => v.ownBlock = some k) (Kd.own_of_R h) (fun _ h => h)) hg (fun k hk e => hs k e.symm hk)) (fun _ _ => trivial)
theorem Sep.grown {α : Type} {d : Kd α} {e base : Nat} {ok : Nat → Prop} {w : World} {u u1 v : Value} {xs : List α} (hs : Sep u v) (hown : u1.ownBlock = u.ownBlock ∨ ∃ b, u1.ownBlock = some b ∧ w.heap.size ≤ b) (hv : d.R e w base ok v xs) : Sep u1 v := by
  intro k h1 h2
  rcases hown with h | ⟨b, h, hb⟩
  · exact hs k (h ▸ h1) h2
  · rw [h] at h1
    cases h1
    have := Kd.R_lt hv k h2
    omega
theorem same_texts (l : List ByteArray) (hl : l.length ≤ 1000) : ∀ (m : Nat) (i : Nat), i ≤ l.length → l.length < i + m → PPipeOrder.arbourbook_Same_string.l0 m l l i = some true
  | 0, i, h1, h2 => by omega
  | m + 1, i, h1, h2 => by
    unfold PPipeOrder.arbourbook_Same_string.l0
    by_cases h : i < l.length
    · rw [if_pos (by omega), if_pos (by omega), if_pos (by omega), if_pos rfl, IntWalk.wrap64_in _ (by omega)]
      exact same_texts l hl m (i + 1) (by omega) (by omega)
    · rw [if_neg (by omega)]
theorem same_texts' (l : List ByteArray) (hl : l.length ≤ 1000) : PPipeOrder.arbourbook_Same_string.f (l.length + 1) l l = some true := by
  unfold PPipeOrder.arbourbook_Same_string.f
  rw [if_pos rfl]
  exact same_texts l hl _ 0 (by omega) (by omega)
theorem cellW {W W' : World} {p : Addr} {v : Value} (h : W.cell? p = some v) (hb : Below W.heap.size W W') : W'.cell? p = some v := (hb.cell (World.block_lt_of_cell? _ _ h)).trans h

set_option maxHeartbeats 8000000 in
set_option maxRecDepth 100000 in
theorem order (a0 : Int) (A : Option Addr) (c : Nat) (l : List ByteArray) (A2 : Option Addr) (c2 : Nat) (tk : List Bool) (W : World) (hl : Kd.string.C W A l.length l ∧ l.length ≤ c) (ht : Kd.bool.C W A2 tk.length tk ∧ tk.length ≤ c2) : Calls Try.prog 5 #[.int .i64 a0, .slice A l.length c, .slice A2 tk.length c2] W fun e w' => e = .returned (.bool true) ∧ Below W.heap.size W w' := by
  obtain ⟨n, hn1, hn2, hw⟩ := within a0 20 (by omega) (by omega) W
  rw [show ((20 : Nat) : Int) = 20 from rfl] at hw
  have HC1 := hide hl.1
  have HC2 := hide ht.1
  have HWI := hide hw
  clear hl hw ht
  go_enter Try.func5, Try.ntmps5
  go_wp2_with fail
  refine HWI.out.mono ?_
  rintro e w1 ⟨rfl, hb⟩
  have HB1 := hide hb
  have HLW := hide (show W.heap.size ≤ w1.heap.size from hb.size)
  clear hb HWI
  dsimp only
  go_wp2_with fail
  refine (newS n hn1 (by omega) w1).mono ?_
  rintro e wB ⟨rfl, hb, -, hp⟩
  have HPB := hide hp
  have HBB := hide (below_step HB1.out hb)
  clear hb hp HB1
  dsimp only
  have HLP := hide (show w1.heap.size + 1 < wB.heap.size from HPB.out.ltP)
  have HLB := hide (show W.heap.size ≤ wB.heap.size from HBB.out.size)
  go_wp2_with fail
  go_loopw [9, 10, 11] (fun v9 v10 i wr => ∃ (k : Nat) (Gs q : List ByteArray), k ≤ l.length ∧ k ≤ 100 ∧ Gs.length + q.length ≤ k ∧ i = .int .i64 k ∧ Aside0 (Kd.string.R 9 wr wB.heap.size (fun _ => True) v9 (Gs ++ q)) ∧ Aside0 (Kd.string.R 9 wr wB.heap.size (fun _ => True) v10 Gs) ∧ Aside0 (Sep v9 v10) ∧ Aside0 (Pip Value.string n (w1.heap.size + 1) w1.heap.size q wr) ∧ Aside0 (Below W.heap.size W wr) ∧ Aside0 (wB.heap.size ≤ wr.heap.size)) (fun _ _ i _ => 100 - (intOf i).toNat)
  case atStart => exact ⟨0, [], [], by omega, by omega, by simp, rfl, ⟨Kd.R_nil _ _ _ _ _⟩, ⟨Kd.R_nil _ _ _ _ _⟩, ⟨fun k h => by simp [Value.ownBlock] at h⟩, ⟨HPB.out⟩, ⟨HBB.out⟩, ⟨Nat.le_refl _⟩⟩
  case round =>
    clear HPB HBB
    obtain ⟨k, Gs, q, hk1, hk2, hlen, rfl, HO9, HO10, HS, HP, HB, HZ⟩ := hrel
    by_cases hlt : k < l.length ∧ k < 100
    · obtain ⟨ad, hA, hw0⟩ := cell_at HC1.out ⟨#[]⟩ k hlt.1
      subst hA
      obtain ⟨a, ha⟩ : ∃ a, l.getD k ⟨#[]⟩ = a := ⟨_, rfl⟩
      rw [ha] at hw0
      have HW0 := hide hw0
      have h0 := cellW hw0 HB.out
      have k1 : k < l.length := hlt.1
      have k2 : k < 100 := hlt.2
      have k3 : (k : Int) < 100 := by omega
      have k0 : (0 : Int) ≤ k := by omega
      have hqn := HP.out.size
      clear ha hw0
      rcases Nat.lt_or_ge q.length n with hroom | hroom
      · rcases Nat.lt_or_ge k tk.length with htk | htk
        · obtain ⟨ad3, hA3, hw3⟩ := cell_at HC2.out false k htk
          subst hA3
          rcases htt : tk.getD k false with _ | _
          · rw [htt] at hw3
            have HW3 := hide hw3
            clear htt hw3
            go_wp2_with fail

            have hput := putS n _ _ q a wr HP.out
            rw [decide_eq_true (by omega), if_pos (by omega)] at hput
            refine hput.mono ?_
            rintro e w2 ⟨rfl, ht, hp⟩
            have HP2 := hide hp
            have HB2 := hide (ht.below HB.out HB.out.size HLW.out)
            have HZ2 := hide (Nat.le_trans HZ.out ht.size)
            have HO92 := hide (R_turn HP.out ht HO9.out)
            have HO102 := hide (R_turn HP.out ht HO10.out)
            clear ht hp hput HP HB HO9 HO10 h0
            dsimp only

            have h0 := cellW HW0.out HB2.out
            have hz2 : wB.heap.size ≤ w2.heap.size := HZ2.out
            go_wp2_with (at_builtin; refine Kd.R_append Kd.string (w0 := w2) wB.heap.size rfl (.tmp 42) (.tmp 47) 40 9 (.string ⟨#[]⟩) 16 rfl Try.underlying40 infozS rfl (by decide) (by decide) _ (Gs ++ q) a [.string a] (fun _ => True) (fun _ => False) rfl rfl rfl (fun k hk => hk.elim) (fun _ _ => trivial) HO92.out (Below.refl _ _) hz2 (by first | omega | (rw [List.length_append]; omega)) ?_; intro v1 w3 ho hb hg hown; have HO3 := hide ho; have HBB3 := hide hb; have HG := hide hg; have HW := hide hown; have h3 := cellW HW3.out (HB2.out.trans (hb.mono HLB.out)); clear ho hb hg hown)
            have HP3 := hide (HP2.out.grown HG.out (fun e => by have := Kd.R_base HO92.out _ e.symm; have := HLP.out; omega) (R_apart HP2.out HO92.out))
            have HO103 := hide (R_sep HO102.out HS.out HG.out)
            have HS3 := hide (Sep.grown HS.out HW.out HO102.out)
            obtain ⟨Q1, hQ1⟩ : ∃ Q1, q ++ [a] = Q1 := ⟨_, rfl⟩
            rw [List.append_assoc, hQ1] at HO3
            rw [hQ1] at HP3
            have hq1 : Q1.length = q.length + 1 := by rw [← hQ1]; simp
            have HB3 := hide (HB2.out.trans (HBB3.out.mono HLB.out))
            have HZ3 := hide (Nat.le_trans HZ2.out HBB3.out.size)
            clear hQ1 HP2 HO92 HO102 HS HG HW HB2 h0 hz2 HBB3

            go_roundw
            case rel => exact ⟨k + 1, Gs, Q1, by omega, by omega, by first | omega | (simp only [List.length_append, List.length_cons, List.length_nil] at *; omega), by go_num, ⟨HO3.out⟩, ⟨HO103.out⟩, ⟨HS3.out⟩, ⟨HP3.out⟩, ⟨HB3.out⟩, ⟨HZ3.out⟩⟩
            case measure => simp only [intOf]; omega
          · rw [htt] at hw3
            have HW3 := hide hw3
            clear htt hw3
            go_wp2_with fail

            have hput := putS n _ _ q a wr HP.out
            rw [decide_eq_true (by omega), if_pos (by omega)] at hput
            refine hput.mono ?_
            rintro e w2 ⟨rfl, ht, hp⟩
            have HP2 := hide hp
            have HB2 := hide (ht.below HB.out HB.out.size HLW.out)
            have HZ2 := hide (Nat.le_trans HZ.out ht.size)
            have HO92 := hide (R_turn HP.out ht HO9.out)
            have HO102 := hide (R_turn HP.out ht HO10.out)
            clear ht hp hput HP HB HO9 HO10 h0
            dsimp only

            have h0 := cellW HW0.out HB2.out
            have hz2 : wB.heap.size ≤ w2.heap.size := HZ2.out
            go_wp2_with (at_builtin; refine Kd.R_append Kd.string (w0 := w2) wB.heap.size rfl (.tmp 42) (.tmp 47) 40 9 (.string ⟨#[]⟩) 16 rfl Try.underlying40 infozS rfl (by decide) (by decide) _ (Gs ++ q) a [.string a] (fun _ => True) (fun _ => False) rfl rfl rfl (fun k hk => hk.elim) (fun _ _ => trivial) HO92.out (Below.refl _ _) hz2 (by first | omega | (rw [List.length_append]; omega)) ?_; intro v1 w3 ho hb hg hown; have HO3 := hide ho; have HBB3 := hide hb; have HG := hide hg; have HW := hide hown; have h3 := cellW HW3.out (HB2.out.trans (hb.mono HLB.out)); clear ho hb hg hown)
            have HP3 := hide (HP2.out.grown HG.out (fun e => by have := Kd.R_base HO92.out _ e.symm; have := HLP.out; omega) (R_apart HP2.out HO92.out))
            have HO103 := hide (R_sep HO102.out HS.out HG.out)
            have HS3 := hide (Sep.grown HS.out HW.out HO102.out)
            obtain ⟨Q1, hQ1⟩ : ∃ Q1, q ++ [a] = Q1 := ⟨_, rfl⟩
            rw [List.append_assoc, hQ1] at HO3
            rw [hQ1] at HP3
            have hq1 : Q1.length = q.length + 1 := by rw [← hQ1]; simp
            have HB3 := hide (HB2.out.trans (HBB3.out.mono HLB.out))
            have HZ3 := hide (Nat.le_trans HZ2.out HBB3.out.size)
            clear hQ1 HP2 HO92 HO102 HS HG HW HB2 h0 hz2 HBB3

            obtain ⟨x, q2, rfl⟩ : ∃ x q2, Q1 = x :: q2 := by
              match Q1, hq1 with
              | x :: q2, _ => exact ⟨x, q2, rfl⟩

            refine (takeS n _ _ x q2 w3 HP3.out).mono ?_
            rintro e w4 ⟨rfl, ht, hp⟩
            have HP4 := hide hp
            have HB4 := hide (ht.below HB3.out HB3.out.size HLW.out)
            have HO94 := hide (R_turn HP3.out ht HO3.out)
            have HO104 := hide (R_turn HP3.out ht HO103.out)
            have hz4 : wB.heap.size ≤ w4.heap.size := Nat.le_trans HZ3.out ht.size
            clear ht hp HP3 HB3 HO3 HO103 h3
            dsimp only
            go_wp2_with (at_builtin; refine Kd.R_append Kd.string (w0 := w4) wB.heap.size rfl (.tmp 65) (.tmp 67) 40 9 (.string ⟨#[]⟩) 16 rfl Try.underlying40 infozS rfl (by decide) (by decide) _ Gs x [.string x] (fun _ => True) (fun _ => False) rfl rfl rfl (fun k hk => hk.elim) (fun _ _ => trivial) HO104.out (Below.refl _ _) hz4 (by first | omega | (rw [List.length_append]; omega)) ?_; intro v1 w5 ho hb hg hown; have HO5 := hide ho; have HBB5 := hide hb; have HG := hide hg; have HW := hide hown; clear ho hb hg hown)
            have HP5 := hide (HP4.out.grown HG.out (fun e => by have := Kd.R_base HO104.out _ e.symm; have := HLP.out; omega) (R_apart HP4.out HO104.out))
            have HO95 := hide (R_sep HO94.out HS3.out.symm HG.out)
            have HS5 := hide (Sep.grown HS3.out.symm HW.out HO94.out).symm
            rw [show Gs ++ x :: q2 = (Gs ++ [x]) ++ q2 by simp] at HO95
            have HB5 := hide (HB4.out.trans (HBB5.out.mono HLB.out))
            have HZ5 := hide (Nat.le_trans hz4 HBB5.out.size)

            go_roundw
            case rel => exact ⟨k + 1, (Gs ++ [x]), q2, by omega, by omega, by first | omega | (simp only [List.length_append, List.length_cons, List.length_nil] at *; omega), by go_num, ⟨HO95.out⟩, ⟨HO5.out⟩, ⟨HS5.out⟩, ⟨HP5.out⟩, ⟨HB5.out⟩, ⟨HZ5.out⟩⟩
            case measure => simp only [intOf]; omega
        · go_wp2_with fail

          have hput := putS n _ _ q a wr HP.out
          rw [decide_eq_true (by omega), if_pos (by omega)] at hput
          refine hput.mono ?_
          rintro e w2 ⟨rfl, ht, hp⟩
          have HP2 := hide hp
          have HB2 := hide (ht.below HB.out HB.out.size HLW.out)
          have HZ2 := hide (Nat.le_trans HZ.out ht.size)
          have HO92 := hide (R_turn HP.out ht HO9.out)
          have HO102 := hide (R_turn HP.out ht HO10.out)
          clear ht hp hput HP HB HO9 HO10 h0
          dsimp only

          have h0 := cellW HW0.out HB2.out
          have hz2 : wB.heap.size ≤ w2.heap.size := HZ2.out
          go_wp2_with (at_builtin; refine Kd.R_append Kd.string (w0 := w2) wB.heap.size rfl (.tmp 42) (.tmp 47) 40 9 (.string ⟨#[]⟩) 16 rfl Try.underlying40 infozS rfl (by decide) (by decide) _ (Gs ++ q) a [.string a] (fun _ => True) (fun _ => False) rfl rfl rfl (fun k hk => hk.elim) (fun _ _ => trivial) HO92.out (Below.refl _ _) hz2 (by first | omega | (rw [List.length_append]; omega)) ?_; intro v1 w3 ho hb hg hown; have HO3 := hide ho; have HBB3 := hide hb; have HG := hide hg; have HW := hide hown; clear ho hb hg hown)
          have HP3 := hide (HP2.out.grown HG.out (fun e => by have := Kd.R_base HO92.out _ e.symm; have := HLP.out; omega) (R_apart HP2.out HO92.out))
          have HO103 := hide (R_sep HO102.out HS.out HG.out)
          have HS3 := hide (Sep.grown HS.out HW.out HO102.out)
          obtain ⟨Q1, hQ1⟩ : ∃ Q1, q ++ [a] = Q1 := ⟨_, rfl⟩
          rw [List.append_assoc, hQ1] at HO3
          rw [hQ1] at HP3
          have hq1 : Q1.length = q.length + 1 := by rw [← hQ1]; simp
          have HB3 := hide (HB2.out.trans (HBB3.out.mono HLB.out))
          have HZ3 := hide (Nat.le_trans HZ2.out HBB3.out.size)
          clear hQ1 HP2 HO92 HO102 HS HG HW HB2 h0 hz2 HBB3

          go_roundw
          case rel => exact ⟨k + 1, Gs, Q1, by omega, by omega, by first | omega | (simp only [List.length_append, List.length_cons, List.length_nil] at *; omega), by go_num, ⟨HO3.out⟩, ⟨HO103.out⟩, ⟨HS3.out⟩, ⟨HP3.out⟩, ⟨HB3.out⟩, ⟨HZ3.out⟩⟩
          case measure => simp only [intOf]; omega
      · rcases Nat.lt_or_ge k tk.length with htk | htk
        · obtain ⟨ad3, hA3, hw3⟩ := cell_at HC2.out false k htk
          subst hA3
          rcases htt : tk.getD k false with _ | _
          · rw [htt] at hw3
            have HW3 := hide hw3
            clear htt hw3
            go_wp2_with fail

            have hput := putS n _ _ q a wr HP.out
            rw [decide_eq_false (by omega), if_neg (by omega)] at hput
            refine hput.mono ?_
            rintro e w2 ⟨rfl, ht, hp⟩
            have HP2 := hide hp
            have HB2 := hide (ht.below HB.out HB.out.size HLW.out)
            have HZ2 := hide (Nat.le_trans HZ.out ht.size)
            have HO92 := hide (R_turn HP.out ht HO9.out)
            have HO102 := hide (R_turn HP.out ht HO10.out)
            clear ht hp hput HP HB HO9 HO10 h0
            dsimp only

            have hq1 : q.length ≤ q.length := Nat.le_refl _
            have h3 := cellW HW3.out HB2.out
            go_wp2_with fail

            go_roundw
            case rel => exact ⟨k + 1, Gs, q, by omega, by omega, by first | omega | (simp only [List.length_append, List.length_cons, List.length_nil] at *; omega), by go_num, ⟨HO92.out⟩, ⟨HO102.out⟩, ⟨HS.out⟩, ⟨HP2.out⟩, ⟨HB2.out⟩, ⟨HZ2.out⟩⟩
            case measure => simp only [intOf]; omega
          · rw [htt] at hw3
            have HW3 := hide hw3
            clear htt hw3
            obtain ⟨x, q2, rfl⟩ : ∃ x q2, q = x :: q2 := by
              match q, hroom with
              | [], h => simp at h; omega
              | x :: q2, _ => exact ⟨x, q2, rfl⟩
            go_wp2_with fail

            have hput := putS n _ _ (x :: q2) a wr HP.out
            rw [decide_eq_false (by omega), if_neg (by omega)] at hput
            refine hput.mono ?_
            rintro e w2 ⟨rfl, ht, hp⟩
            have HP2 := hide hp
            have HB2 := hide (ht.below HB.out HB.out.size HLW.out)
            have HZ2 := hide (Nat.le_trans HZ.out ht.size)
            have HO92 := hide (R_turn HP.out ht HO9.out)
            have HO102 := hide (R_turn HP.out ht HO10.out)
            clear ht hp hput HP HB HO9 HO10 h0
            dsimp only

            have hq1 : q2.length ≤ q2.length := Nat.le_refl _
            have h3 := cellW HW3.out HB2.out
            go_wp2_with fail


            refine (takeS n _ _ x q2 w2 HP2.out).mono ?_
            rintro e w4 ⟨rfl, ht, hp⟩
            have HP4 := hide hp
            have HB4 := hide (ht.below HB2.out HB2.out.size HLW.out)
            have HO94 := hide (R_turn HP2.out ht HO92.out)
            have HO104 := hide (R_turn HP2.out ht HO102.out)
            have hz4 : wB.heap.size ≤ w4.heap.size := Nat.le_trans HZ2.out ht.size
            clear ht hp HP2 HB2 HO92 HO102 h3
            dsimp only
            go_wp2_with (at_builtin; refine Kd.R_append Kd.string (w0 := w4) wB.heap.size rfl (.tmp 65) (.tmp 67) 40 9 (.string ⟨#[]⟩) 16 rfl Try.underlying40 infozS rfl (by decide) (by decide) _ Gs x [.string x] (fun _ => True) (fun _ => False) rfl rfl rfl (fun k hk => hk.elim) (fun _ _ => trivial) HO104.out (Below.refl _ _) hz4 (by first | omega | (rw [List.length_append]; omega)) ?_; intro v1 w5 ho hb hg hown; have HO5 := hide ho; have HBB5 := hide hb; have HG := hide hg; have HW := hide hown; clear ho hb hg hown)
            have HP5 := hide (HP4.out.grown HG.out (fun e => by have := Kd.R_base HO104.out _ e.symm; have := HLP.out; omega) (R_apart HP4.out HO104.out))
            have HO95 := hide (R_sep HO94.out HS.out.symm HG.out)
            have HS5 := hide (Sep.grown HS.out.symm HW.out HO94.out).symm
            rw [show Gs ++ x :: q2 = (Gs ++ [x]) ++ q2 by simp] at HO95
            have HB5 := hide (HB4.out.trans (HBB5.out.mono HLB.out))
            have HZ5 := hide (Nat.le_trans hz4 HBB5.out.size)

            go_roundw
            case rel => exact ⟨k + 1, (Gs ++ [x]), q2, by omega, by omega, by first | omega | (simp only [List.length_append, List.length_cons, List.length_nil] at *; omega), by go_num, ⟨HO95.out⟩, ⟨HO5.out⟩, ⟨HS5.out⟩, ⟨HP5.out⟩, ⟨HB5.out⟩, ⟨HZ5.out⟩⟩
            case measure => simp only [intOf]; omega
        · go_wp2_with fail

          have hput := putS n _ _ q a wr HP.out
          rw [decide_eq_false (by omega), if_neg (by omega)] at hput
          refine hput.mono ?_
          rintro e w2 ⟨rfl, ht, hp⟩
          have HP2 := hide hp
          have HB2 := hide (ht.below HB.out HB.out.size HLW.out)
          have HZ2 := hide (Nat.le_trans HZ.out ht.size)
          have HO92 := hide (R_turn HP.out ht HO9.out)
          have HO102 := hide (R_turn HP.out ht HO10.out)
          clear ht hp hput HP HB HO9 HO10 h0
          dsimp only

          have hq1 : q.length ≤ q.length := Nat.le_refl _
          go_wp2_with fail

          go_roundw
          case rel => exact ⟨k + 1, Gs, q, by omega, by omega, by first | omega | (simp only [List.length_append, List.length_cons, List.length_nil] at *; omega), by go_num, ⟨HO92.out⟩, ⟨HO102.out⟩, ⟨HS.out⟩, ⟨HP2.out⟩, ⟨HB2.out⟩, ⟨HZ2.out⟩⟩
          case measure => simp only [intOf]; omega
    · by_cases k5 : k < l.length
      · have k6 : ¬ k < 100 := fun h => hlt ⟨k5, h⟩
        have k7 : ¬ (k : Int) < 100 := by omega
        clear hlt
        go_wp2_with fail
        refine (drainS n _ _ q wr HP.out (by omega)).mono ?_
        rintro e w20 ⟨v, rfl, hR, ht, hp⟩
        obtain ⟨A3, c3, rfl, -, hC3⟩ := Kd.R_reads hR
        have HC3 := hide hC3
        have HB20 := hide (ht.below HB.out HB.out.size HLW.out)
        have HZ20 := hide (Nat.le_trans HZ.out ht.size)
        have HP20 := hide hp
        have HO920 := hide (R_turn HP.out ht HO9.out)
        have HO1020 := hide (R_turn HP.out ht HO10.out)
        clear ht hp hR HP HB HO9 HO10 hC3 HZ
        dsimp only
        have hz20 := HZ20.out
        go_wp2_with (at_builtin; refine Kd.R_append_rows Kd.string (Rr := Kd.string.K w20) (w0 := w20) wB.heap.size rfl (.tmp 69) (.tmp 71) 40 9 (.string ⟨#[]⟩) 16 rfl Try.underlying40 infozS rfl (by decide) (by decide) _ Gs q A3 q.length c3 (fun _ => True) (fun _ => False) rfl rfl HO1020.out HC3.out (fun _ _ h => h) (fun k hk => hk.elim) (fun _ _ => trivial) (Below.refl _ _) hz20 (by omega) ?_; intro v1 w21 ho hb hg hown; have HO21 := hide ho; have HBB := hide hb; have HG := hide hg; clear ho hb hg hown)
        have HP21 := hide (HP20.out.grown HG.out (fun e => by have := Kd.R_base HO1020.out _ e.symm; have := HLP.out; omega) (R_apart HP20.out HO1020.out))
        have HO921 := hide (R_sep HO920.out HS.out.symm HG.out)
        have HB21 := hide (HB20.out.trans (HBB.out.mono HLB.out))
        clear HP20 HO920 HO1020 HS HG HB20 HBB HC3
        obtain ⟨X, hX⟩ : ∃ X, Gs ++ q = X := ⟨_, rfl⟩
        have hXL : X.length ≤ 1000 := by rw [← hX, List.length_append]; omega
        rw [hX] at HO21 HO921
        obtain ⟨A4, c4, rfl, hl4, hC4⟩ := Kd.R_reads HO21.out
        obtain ⟨A5, c5, rfl, hl5, hC5⟩ := Kd.R_reads HO921.out
        have hsame := PPipeOrder.arbourbook_Same_string.calls (X.length + 1) A5 c5 X A4 c4 X true w21 hC5 hl5 hC4 hl4 (same_texts' X hXL)
        have HSM := hide hsame
        clear hsame hC4 hC5 hl4 hl5 HO21 HO921 hX hXL
        go_wp2_with fail
        refine HSM.out.mono ?_
        rintro e w22 ⟨rfl, hd⟩
        have HP22 := hide (HP21.out.below hd.below)
        have HB22 := hide (below_step HB21.out hd.below)
        clear hd HP21 HB21 HSM
        dsimp only
        go_wp2_with fail
        refine (lenS n _ _ [] w22 HP22.out).mono ?_
        rintro e w23 ⟨rfl, hb⟩
        have HB23 := hide (below_step HB22.out hb)
        clear hb HP22 HB22
        dsimp only
        simp only [List.length_nil]
        go_wp2_with fail
        refine (known _).mono ?_
        rintro e w24 ⟨rfl, hb⟩
        have HB24 := hide (below_step HB23.out hb)
        clear hb HB23
        dsimp only
        go_wp2_with fail
        go_ret
        exact ⟨rfl, HB24.out⟩
      · clear hlt
        go_wp2_with fail
        refine (drainS n _ _ q wr HP.out (by omega)).mono ?_
        rintro e w20 ⟨v, rfl, hR, ht, hp⟩
        obtain ⟨A3, c3, rfl, -, hC3⟩ := Kd.R_reads hR
        have HC3 := hide hC3
        have HB20 := hide (ht.below HB.out HB.out.size HLW.out)
        have HZ20 := hide (Nat.le_trans HZ.out ht.size)
        have HP20 := hide hp
        have HO920 := hide (R_turn HP.out ht HO9.out)
        have HO1020 := hide (R_turn HP.out ht HO10.out)
        clear ht hp hR HP HB HO9 HO10 hC3 HZ
        dsimp only
        have hz20 := HZ20.out
        go_wp2_with (at_builtin; refine Kd.R_append_rows Kd.string (Rr := Kd.string.K w20) (w0 := w20) wB.heap.size rfl (.tmp 69) (.tmp 71) 40 9 (.string ⟨#[]⟩) 16 rfl Try.underlying40 infozS rfl (by decide) (by decide) _ Gs q A3 q.length c3 (fun _ => True) (fun _ => False) rfl rfl HO1020.out HC3.out (fun _ _ h => h) (fun k hk => hk.elim) (fun _ _ => trivial) (Below.refl _ _) hz20 (by omega) ?_; intro v1 w21 ho hb hg hown; have HO21 := hide ho; have HBB := hide hb; have HG := hide hg; clear ho hb hg hown)
        have HP21 := hide (HP20.out.grown HG.out (fun e => by have := Kd.R_base HO1020.out _ e.symm; have := HLP.out; omega) (R_apart HP20.out HO1020.out))
        have HO921 := hide (R_sep HO920.out HS.out.symm HG.out)
        have HB21 := hide (HB20.out.trans (HBB.out.mono HLB.out))
        clear HP20 HO920 HO1020 HS HG HB20 HBB HC3
        obtain ⟨X, hX⟩ : ∃ X, Gs ++ q = X := ⟨_, rfl⟩
        have hXL : X.length ≤ 1000 := by rw [← hX, List.length_append]; omega
        rw [hX] at HO21 HO921
        obtain ⟨A4, c4, rfl, hl4, hC4⟩ := Kd.R_reads HO21.out
        obtain ⟨A5, c5, rfl, hl5, hC5⟩ := Kd.R_reads HO921.out
        have hsame := PPipeOrder.arbourbook_Same_string.calls (X.length + 1) A5 c5 X A4 c4 X true w21 hC5 hl5 hC4 hl4 (same_texts' X hXL)
        have HSM := hide hsame
        clear hsame hC4 hC5 hl4 hl5 HO21 HO921 hX hXL
        go_wp2_with fail
        refine HSM.out.mono ?_
        rintro e w22 ⟨rfl, hd⟩
        have HP22 := hide (HP21.out.below hd.below)
        have HB22 := hide (below_step HB21.out hd.below)
        clear hd HP21 HB21 HSM
        dsimp only
        go_wp2_with fail
        refine (lenS n _ _ [] w22 HP22.out).mono ?_
        rintro e w23 ⟨rfl, hb⟩
        have HB23 := hide (below_step HB22.out hb)
        clear hb HP22 HB22
        dsimp only
        simp only [List.length_nil]
        go_wp2_with fail
        refine (known _).mono ?_
        rintro e w24 ⟨rfl, hb⟩
        have HB24 := hide (below_step HB23.out hb)
        clear hb HB23
        dsimp only
        go_wp2_with fail
        go_ret
        exact ⟨rfl, HB24.out⟩
end Go.Proofs.Ytomfcaddlmkaoaa.Pipe
