/- The walk of the law PipePlays: true. -/
import Derived.Test.YtomfcaddlmkaoaaPipeOrderWalk
import Derived.Test.YtomfcaddlmkaoaaPipeOpenAsk
namespace Go.Proofs.Ytomfcaddlmkaoaa.Pipe
open Go.RowKit Go.Conc Go.Proofs.YtomfcaddlmkaoaaW.PrintWords Go.Proofs.YtomfcaddlmkaoaaW.PrintLast
abbrev ki : Kd Int := Kd.int .i64
theorem ask_at {w : World} {A : Option Addr} {l : List (Int × Int × List Int)} (h : kAsk.C w A l.length l) (k : Nat) (hk : k < l.length) : ∃ ad kd nn L LA lc, A = some ad ∧ l[k]? = some (kd, nn, L) ∧ w.cell? (ad.add (k * 3)) = some (.int .i64 kd) ∧ w.cell? ⟨(ad.add (k * 3)).block, (ad.add (k * 3)).off + 1, none⟩ = some (.int .i64 nn) ∧ w.cell? ⟨(ad.add (k * 3)).block, (ad.add (k * 3)).off + 2, none⟩ = some (.slice LA L.length lc) ∧ L.length ≤ lc ∧ ki.C w LA L.length L := by
  obtain ⟨ad, rfl, hc⟩ := h.2.2 (by omega)
  obtain ⟨cs, hl, hK, hcell⟩ := hc k _ (List.getElem?_eq_getElem hk)
  obtain ⟨LA, lc, rfl, hL, hC⟩ := ask_open hK
  rcases hx : l[k] with ⟨kd, nn, L⟩
  exact ⟨ad, kd, nn, L, LA, lc, rfl, by rw [List.getElem?_eq_getElem hk, hx], by have := hcell 0 _ rfl; rwa [hx] at this, by rw [← add_field _ _ 1 (by omega)]; have := hcell 1 _ rfl; rwa [hx] at this, by rw [← add_field _ _ 2 (by omega)]; have := hcell 2 _ rfl; rwa [hx] at this, by rwa [hx] at hL, by rwa [hx] at hC⟩
theorem Q_line {α β : Type} {enc : α → Value} {n P C : Nat} {xs : List α} {w : World} (h : Pip enc n P C xs w) {d : Kd β} {e base : Nat} {ok : Nat → Prop} {v : Value} {ys : List β} (hR : d.Q e w base ok v ys) : d.Q e w base (fun k => ok k ∧ k ≠ C) v ys := by
  obtain ⟨s, r, hc⟩ := h.chan
  refine Kd.Q_mono (Kd.Q_bound hR) (fun k hk => ⟨hk.1, fun e => ?_⟩)
  obtain ⟨_, _, _, q, _, cells, hq⟩ := hk
  rw [e, hc] at hq
  cases hq
theorem Q_turn {α β : Type} {enc : α → Value} {n P C : Nat} {xs : List α} {w w' : World} (h : Pip enc n P C xs w) (ht : Turn C w w') {d : Kd β} {e base : Nat} {ok : Nat → Prop} {v : Value} {ys : List β} (hR : d.Q e w base ok v ys) : d.Q e w' base ok v ys :=
  Kd.Q_mono (Kd.Q_keep (Q_line h hR) ht.keep (fun _ hk => hk.2)) (fun _ hk => hk.1)
theorem Q_apart {α β : Type} {enc : α → Value} {n P C : Nat} {xs : List α} {w : World} (h : Pip enc n P C xs w) {d : Kd β} {e base : Nat} {ok : Nat → Prop} {v : Value} {ys : List β} (hR : d.Q e w base ok v ys) : some C ≠ v.ownBlock := fun e => (Q_line h hR).1 C e.symm |>.2 rfl
theorem same_ints (l : List Int) (hl : l.length ≤ 1000) : ∀ (m : Nat) (i : Nat), i ≤ l.length → l.length < i + m → PPipePlays.arbourbook_Same_int.l0 m l l i = some true
  | 0, i, h1, h2 => by omega
  | m + 1, i, h1, h2 => by
    unfold PPipePlays.arbourbook_Same_int.l0
    by_cases h : i < l.length
    · rw [if_pos (by omega), if_pos (by omega), if_pos (by omega), if_pos rfl, IntWalk.wrap64_in _ (by omega)]
      exact same_ints l hl m (i + 1) (by omega) (by omega)
    · rw [if_neg (by omega)]
theorem same_ints' (l : List Int) (hl : l.length ≤ 1000) : PPipePlays.arbourbook_Same_int.f (l.length + 1) l l = some true := by
  unfold PPipePlays.arbourbook_Same_int.f
  rw [if_pos rfl]
  exact same_ints l hl _ 0 (by omega) (by omega)
theorem cell_turn {α : Type} {enc : α → Value} {n P C : Nat} {xs : List α} {w w' : World} (h : Pip enc n P C xs w) (ht : Turn C w w') {p : Addr} {v : Value} (hc : w.cell? p = some v) : w'.cell? p = some v := by
  obtain ⟨s, r, hq⟩ := h.chan
  exact (cell_of_block (ht.block p.block (World.block_lt_of_cell? _ _ hc) (cell_chan hc hq))).trans hc
theorem hi3 : ∃ i, Try.prog.info? 3 = some i ∧ i.size = 1 := by
  obtain ⟨i, hi, he⟩ := Option.map_eq_some_iff.1 infozI
  simp only [Prod.mk.injEq] at he
  exact ⟨i, hi, he.2.1⟩
theorem cell_keep {w w' : World} {p : Addr} {v : Value} (h : w.cell? p = some v) (hb : Below w.heap.size w w') : w'.cell? p = some v := (hb.cell (World.block_lt_of_cell? _ _ h)).trans h
theorem lit0 (W : World) (base : Nat) (hb : base ≤ W.heap.size) : ki.R 3 (W.alloc (.cells #[] 3)) base (fun _ => True) (.slice (some ⟨W.heap.size, 0, none⟩) 0 0) [] :=
  ⟨fun _ _ => trivial, [], by have := World.ownsRow_lit (base := base) (e := 3) (size := 1) W #[] 0 hb (by simp) rfl; exact this, Reps.none _ _⟩
set_option maxHeartbeats 8000000 in
set_option maxRecDepth 100000 in
theorem plays (a0 : Int) (A : Option Addr) (c : Nat) (l : List (Int × Int × List Int)) (W : World) (hl : kAsk.C W A l.length l ∧ l.length ≤ c) : Calls Try.prog 4 #[.int .i64 a0, .slice A l.length c] W fun e w' => e = .returned (.bool true) ∧ Below W.heap.size W w' := by
  obtain ⟨n, hn1, hn2, hw⟩ := within a0 40 (by omega) (by omega) W
  rw [show ((40 : Nat) : Int) = 40 from rfl] at hw
  have HC1 := hide hl.1
  have HWI := hide hw
  clear hl hw
  go_enter Try.func4, Try.ntmps4
  go_wp2_with fail
  refine HWI.out.mono ?_
  rintro e w1 ⟨rfl, hb⟩
  have HB1 := hide hb
  have HLW := hide (show W.heap.size ≤ w1.heap.size from hb.size)
  clear hb HWI
  dsimp only
  go_wp2_with fail
  refine (newI n hn1 (by omega) w1).mono ?_
  rintro e wB ⟨rfl, hb, -, hp⟩
  have HPB := hide hp
  have HBB := hide (below_step HB1.out hb)
  clear hb hp HB1
  dsimp only
  have HLP := hide (show w1.heap.size + 1 < wB.heap.size from HPB.out.ltP)
  have HLB := hide (show W.heap.size ≤ wB.heap.size from HBB.out.size)
  go_wp2_with fail
  go_loopw [8, 9] (fun v i wr => ∃ (k : Nat) (xs : List Int), k ≤ l.length ∧ k ≤ 60 ∧ i = .int .i64 k ∧ Aside0 (ki.Q 3 wr wB.heap.size (fun _ => True) v xs) ∧ Aside0 (Pip (Value.int .i64) n (w1.heap.size + 1) w1.heap.size xs wr) ∧ Aside0 (Below W.heap.size W wr) ∧ Aside0 (wB.heap.size ≤ wr.heap.size)) (fun _ i _ => 60 - (intOf i).toNat)
  case atStart => exact ⟨0, [], by omega, by omega, rfl, ⟨Kd.Q_nil _ _ _ _ _⟩, ⟨HPB.out⟩, ⟨HBB.out⟩, ⟨Nat.le_refl _⟩⟩
  case round =>
    clear HPB HBB
    obtain ⟨k, xs, hk1, hk2, rfl, HO, HP, HB, HZ⟩ := hrel
    by_cases hlt : k < l.length ∧ k < 60
    · obtain ⟨ad, kd, nn, L, LA, lc, hA, hlk, hw0, hw1, hw2, hLc, hLC⟩ := ask_at HC1.out k hlt.1
      subst hA
      have HLC := hide hLC
      have HLL := hide hLc
      have h0 := cellW hw0 HB.out
      have h1 := cellW hw1 HB.out
      have h2 := cellW hw2 HB.out
      have k1 : k < l.length := hlt.1
      have k2 : k < 60 := hlt.2
      have k3 : (k : Int) < 60 := by omega
      have k0 : (0 : Int) ≤ k := by omega
      have hqn := HP.out.size
      clear hw0 hw1 hw2 hlk hLC hLc
      obtain ⟨Av, cv, rfl, hv⟩ := Kd.Q_slice HO.out
      have HPX := hide (HP.out.below (below_alloc (Below.refl _ _) (.cells #[.int .i64 kd, .int .i64 nn, .slice LA L.length lc] 37)))
      have HOX := hide (Kd.Q_alloc HO.out (.cells #[.int .i64 kd, .int .i64 nn, .slice LA L.length lc] 37))
      have HBX := hide (below_step HB.out (below_alloc (Below.refl wr.heap.size wr) (.cells #[.int .i64 kd, .int .i64 nn, .slice LA L.length lc] 37)))
      have HZX := hide (show wB.heap.size ≤ (wr.alloc (.cells #[.int .i64 kd, .int .i64 nn, .slice LA L.length lc] 37)).heap.size by have := HZ.out; simp; omega)
      have c1 : (wr.alloc (.cells #[.int .i64 kd, .int .i64 nn, .slice LA L.length lc] 37)).cell? ⟨wr.heap.size, 1, none⟩ = some (.int .i64 nn) := cell_of_row _ _ 1 _ _ _ (heap_alloc_new wr _)
      have c2 : (wr.alloc (.cells #[.int .i64 kd, .int .i64 nn, .slice LA L.length lc] 37)).cell? ⟨wr.heap.size, 2, none⟩ = some (.slice LA L.length lc) := cell_of_row _ _ 2 _ _ _ (heap_alloc_new wr _)
      clear HP HB HZ
      by_cases q1 : kd = 1
      · subst q1
        rcases Nat.lt_or_ge xs.length n with hroom | hroom
        · go_wp2_with fail
          obtain ⟨wX, hwX⟩ : ∃ wX, wr.alloc (.cells #[.int .i64 1, .int .i64 nn, .slice LA L.length lc] 37) = wX := ⟨_, rfl⟩
          rw [hwX] at HPX HOX HBX HZX c1 c2 ⊢
          clear hwX

          have hput := putI n _ _ xs nn wX HPX.out
          rw [decide_eq_true (by omega), if_pos (by omega)] at hput
          refine hput.mono ?_
          rintro e w2 ⟨rfl, ht, hp⟩
          have HP2 := hide hp
          have HB2 := hide (ht.below HBX.out HBX.out.size HLW.out)
          have HZ2 := hide (Nat.le_trans HZX.out ht.size)
          have HO2 := hide (Q_turn HPX.out ht HOX.out)
          have h1' := cell_turn HPX.out ht c1
          have hz2 := HZ2.out
          clear ht hp hput HPX HBX HOX HZX c1 c2
          dsimp only

          go_wp2_with (at_builtin; refine Kd.Q_append ki (w0 := w2) wB.heap.size rfl (.tmp 63) (.tmp 66) 22 3 (.int .i64 0) 8 rfl Try.underlying22 infozI rfl (by decide) (by decide) _ xs nn [.int .i64 nn] (fun _ => True) (fun _ => False) rfl rfl rfl (fun k hk => hk.elim) (fun _ _ => trivial) HO2.out (Below.refl _ _) hz2 (by omega) ?_; intro v1 w3 ho hb hg hown; obtain ⟨ys, hys⟩ : ∃ ys, xs ++ [nn] = ys := ⟨_, rfl⟩; rw [hys] at ho; obtain ⟨Av1, cv1, rfl, _⟩ := Kd.Q_slice ho; have HYS := hide hys; have HO3 := hide ho; have HBB := hide hb; have HG := hide hg; clear ho hb hg hown hys)
          have HP3' := hide (HP2.out.grown HG.out (fun e => by have := Kd.Q_base HO2.out _ e.symm; have := HLP.out; omega) (Q_apart HP2.out HO2.out))
          rw [HYS.out] at HP3'
          have HP3 := HP3'
          have HB3 := hide (HB2.out.trans (HBB.out.mono HLB.out))
          have HZ3 := hide (Nat.le_trans HZ2.out HBB.out.size)
          clear HP3' HG HBB HP2 HO2 HB2 HZ2 hz2 h1'

          have hsz := HP3.out.size
          have ew : IntKind.i64.wrap ((n : Int) - (ys.length : Int)) = ((n - ys.length : Nat) : Int) := by rw [IntWalk.i64_in _ (by omega)]; omega

          refine (lenI n _ _ ys w3 HP3.out).mono ?_
          rintro e w30 ⟨rfl, hb⟩
          have HP30 := hide (HP3.out.below hb)
          have HO30 := hide (Kd.Q_below HO3.out hb)
          have HB30 := hide (below_step HB3.out hb)
          have HZ30 := hide (Nat.le_trans HZ3.out hb.size)
          clear hb HP3 HO3 HB3 HZ3
          dsimp only
          go_wp2_with fail
          refine (roomI n _ _ ys w30 HP30.out (by omega)).mono ?_
          rintro e w31 ⟨rfl, hb⟩
          have HP31 := hide (HP30.out.below hb)
          have HO31 := hide (Kd.Q_below HO30.out hb)
          have HB31 := hide (below_step HB30.out hb)
          have HZ31 := hide (Nat.le_trans HZ30.out hb.size)
          clear hb HP30 HO30 HB30 HZ30
          dsimp only
          go_wp2_with fail
          go_roundw
          case rel => exact ⟨k + 1, ys, by omega, by omega, by go_num, ⟨HO31.out⟩, ⟨HP31.out⟩, ⟨HB31.out⟩, ⟨HZ31.out⟩⟩
          case measure => simp only [intOf]; omega
        · go_wp2_with fail
          obtain ⟨wX, hwX⟩ : ∃ wX, wr.alloc (.cells #[.int .i64 1, .int .i64 nn, .slice LA L.length lc] 37) = wX := ⟨_, rfl⟩
          rw [hwX] at HPX HOX HBX HZX c1 c2 ⊢
          clear hwX

          have hput := putI n _ _ xs nn wX HPX.out
          rw [decide_eq_false (by omega), if_neg (by omega)] at hput
          refine hput.mono ?_
          rintro e w2 ⟨rfl, ht, hp⟩
          have HP2 := hide hp
          have HB2 := hide (ht.below HBX.out HBX.out.size HLW.out)
          have HZ2 := hide (Nat.le_trans HZX.out ht.size)
          have HO2 := hide (Q_turn HPX.out ht HOX.out)
          have h1' := cell_turn HPX.out ht c1
          have hz2 := HZ2.out
          clear ht hp hput HPX HBX HOX HZX c1 c2
          dsimp only

          have hsz := HP2.out.size
          have ew : IntKind.i64.wrap ((n : Int) - (xs.length : Int)) = ((n - xs.length : Nat) : Int) := by rw [IntWalk.i64_in _ (by omega)]; omega
          go_wp2_with fail
          refine (lenI n _ _ xs w2 HP2.out).mono ?_
          rintro e w30 ⟨rfl, hb⟩
          have HP30 := hide (HP2.out.below hb)
          have HO30 := hide (Kd.Q_below HO2.out hb)
          have HB30 := hide (below_step HB2.out hb)
          have HZ30 := hide (Nat.le_trans HZ2.out hb.size)
          clear hb HP2 HO2 HB2 HZ2
          dsimp only
          go_wp2_with fail
          refine (roomI n _ _ xs w30 HP30.out (by omega)).mono ?_
          rintro e w31 ⟨rfl, hb⟩
          have HP31 := hide (HP30.out.below hb)
          have HO31 := hide (Kd.Q_below HO30.out hb)
          have HB31 := hide (below_step HB30.out hb)
          have HZ31 := hide (Nat.le_trans HZ30.out hb.size)
          clear hb HP30 HO30 HB30 HZ30
          dsimp only
          go_wp2_with fail
          go_roundw
          case rel => exact ⟨k + 1, xs, by omega, by omega, by go_num, ⟨HO31.out⟩, ⟨HP31.out⟩, ⟨HB31.out⟩, ⟨HZ31.out⟩⟩
          case measure => simp only [intOf]; omega
      · by_cases q2 : kd = 2
        · subst q2
          rcases Nat.eq_zero_or_pos xs.length with hx0 | hx0
          · obtain rfl : xs = [] := List.eq_nil_of_length_eq_zero hx0

            go_wp2_with fail
            obtain ⟨wX, hwX⟩ : ∃ wX, wr.alloc (.cells #[.int .i64 2, .int .i64 nn, .slice LA L.length lc] 37) = wX := ⟨_, rfl⟩
            rw [hwX] at HPX HOX HBX HZX c1 c2 ⊢
            clear hwX

            refine (takeNilI n _ _ wX HPX.out).mono ?_
            rintro e w2 ⟨rfl, rfl⟩
            dsimp only

            have hsz := HPX.out.size
            have ew : IntKind.i64.wrap ((n : Int) - (([] : List Int).length : Int)) = ((n - ([] : List Int).length : Nat) : Int) := by rw [IntWalk.i64_in _ (by omega)]; omega
            go_wp2_with fail
            refine (lenI n _ _ ([] : List Int) w2 HPX.out).mono ?_
            rintro e w30 ⟨rfl, hb⟩
            have HP30 := hide (HPX.out.below hb)
            have HO30 := hide (Kd.Q_below HOX.out hb)
            have HB30 := hide (below_step HBX.out hb)
            have HZ30 := hide (Nat.le_trans HZX.out hb.size)
            clear hb HPX HOX HBX HZX
            dsimp only
            go_wp2_with fail
            refine (roomI n _ _ ([] : List Int) w30 HP30.out (by omega)).mono ?_
            rintro e w31 ⟨rfl, hb⟩
            have HP31 := hide (HP30.out.below hb)
            have HO31 := hide (Kd.Q_below HO30.out hb)
            have HB31 := hide (below_step HB30.out hb)
            have HZ31 := hide (Nat.le_trans HZ30.out hb.size)
            clear hb HP30 HO30 HB30 HZ30
            dsimp only
            go_wp2_with fail
            go_roundw
            case rel => exact ⟨k + 1, ([] : List Int), by omega, by omega, by go_num, ⟨HO31.out⟩, ⟨HP31.out⟩, ⟨HB31.out⟩, ⟨HZ31.out⟩⟩
            case measure => simp only [intOf]; omega
          · obtain ⟨x0, ys, rfl⟩ : ∃ x0 ys, xs = x0 :: ys := by
              match xs, hx0 with
              | [], h => simp at h
              | x0 :: ys, _ => exact ⟨x0, ys, rfl⟩
            obtain ⟨N, hN⟩ : ∃ N, (x0 :: ys).length = N := ⟨_, rfl⟩
            have hN1 : N = ys.length + 1 := by rw [← hN]; rfl
            rw [hN] at HOX HO hqn ⊢
            obtain ⟨i3, hi3, hs3⟩ := hi3
            have hcut := cut_from (P := Try.prog) 22 3 .i64 Try.underlying22 hi3 1 hs3 Av N cv (1 : Int) (by omega) (by omega)
            have HCUT := hide hcut
            have p1 : 0 < N := by omega
            have p2 : (0 : Int) < (N : Int) := by omega
            have HN := hide hN
            have HN1 := hide hN1
            clear hN hN1 hs3 hi3 hcut

            go_wp2_with fail
            obtain ⟨wX, hwX⟩ : ∃ wX, wr.alloc (.cells #[.int .i64 2, .int .i64 nn, .slice LA L.length lc] 37) = wX := ⟨_, rfl⟩
            rw [hwX] at HPX HOX HBX HZX c1 c2 ⊢
            clear hwX

            refine (takeI n _ _ x0 ys wX HPX.out).mono ?_
            rintro e w2 ⟨rfl, ht, hp⟩
            have HP2 := hide hp
            have HB2 := hide (ht.below HBX.out HBX.out.size HLW.out)
            have HZ2 := hide (Nat.le_trans HZX.out ht.size)
            have ho2 := Q_turn HPX.out ht HOX.out
            obtain ⟨_, _, hC⟩ := Kd.Q_reads' ho2
            obtain ⟨ad4, rfl, h4⟩ := cell_at hC 0 0 (by simp)
            have e0 : ad4.add 0 = ad4 := by unfold Addr.add; split <;> simp_all
            rw [e0] at h4
            rw [show (x0 :: ys).getD 0 0 = x0 from rfl] at h4
            have ho3 := Kd.Q_drop ho2 (k := 1) (by simp)
            rw [show (x0 :: ys).drop 1 = ys from rfl] at ho3
            have hN2 : N - 1 = ys.length := by rw [HN1.out]; omega
            have ef : ad4.add (1 * ki.sz) = ⟨ad4.block, ad4.off + 1, none⟩ := by
              have := add_field ad4 0 1 (by omega)
              rw [e0] at this
              exact this
            rw [hN2] at ho3
            clear ht hp ho2 hC e0 HPX HBX HOX HZX c1 c2 hN2 HCUT
            dsimp only
            by_cases hcv : cv = 1
            · rw [if_pos hcv] at ho3
              subst hcv
              have HO3 := hide ho3
              clear ho3 ef
              go_wp2_with fail
              have hsz := HP2.out.size
              have ew : IntKind.i64.wrap ((n : Int) - (ys.length : Int)) = ((n - ys.length : Nat) : Int) := by rw [IntWalk.i64_in _ (by omega)]; omega

              refine (lenI n _ _ ys w2 HP2.out).mono ?_
              rintro e w30 ⟨rfl, hb⟩
              have HP30 := hide (HP2.out.below hb)
              have HO30 := hide (Kd.Q_below HO3.out hb)
              have HB30 := hide (below_step HB2.out hb)
              have HZ30 := hide (Nat.le_trans HZ2.out hb.size)
              clear hb HP2 HO3 HB2 HZ2
              dsimp only
              go_wp2_with fail
              refine (roomI n _ _ ys w30 HP30.out (by omega)).mono ?_
              rintro e w31 ⟨rfl, hb⟩
              have HP31 := hide (HP30.out.below hb)
              have HO31 := hide (Kd.Q_below HO30.out hb)
              have HB31 := hide (below_step HB30.out hb)
              have HZ31 := hide (Nat.le_trans HZ30.out hb.size)
              clear hb HP30 HO30 HB30 HZ30
              dsimp only
              go_wp2_with fail
              go_roundw
              case rel => exact ⟨k + 1, ys, by omega, by omega, by go_num, ⟨HO31.out⟩, ⟨HP31.out⟩, ⟨HB31.out⟩, ⟨HZ31.out⟩⟩
              case measure => simp only [intOf]; omega
            · rw [if_neg hcv, Option.map_some, ef] at ho3
              have HO3 := hide ho3
              clear ho3 ef
              go_wp2_with fail
              have hsz := HP2.out.size
              have ew : IntKind.i64.wrap ((n : Int) - (ys.length : Int)) = ((n - ys.length : Nat) : Int) := by rw [IntWalk.i64_in _ (by omega)]; omega

              refine (lenI n _ _ ys w2 HP2.out).mono ?_
              rintro e w30 ⟨rfl, hb⟩
              have HP30 := hide (HP2.out.below hb)
              have HO30 := hide (Kd.Q_below HO3.out hb)
              have HB30 := hide (below_step HB2.out hb)
              have HZ30 := hide (Nat.le_trans HZ2.out hb.size)
              clear hb HP2 HO3 HB2 HZ2
              dsimp only
              go_wp2_with fail
              refine (roomI n _ _ ys w30 HP30.out (by omega)).mono ?_
              rintro e w31 ⟨rfl, hb⟩
              have HP31 := hide (HP30.out.below hb)
              have HO31 := hide (Kd.Q_below HO30.out hb)
              have HB31 := hide (below_step HB30.out hb)
              have HZ31 := hide (Nat.le_trans HZ30.out hb.size)
              clear hb HP30 HO30 HB30 HZ30
              dsimp only
              go_wp2_with fail
              go_roundw
              case rel => exact ⟨k + 1, ys, by omega, by omega, by go_num, ⟨HO31.out⟩, ⟨HP31.out⟩, ⟨HB31.out⟩, ⟨HZ31.out⟩⟩
              case measure => simp only [intOf]; omega
        · by_cases q3 : kd = 3
          · subst q3
            obtain ⟨K, hK⟩ : ∃ K, n - xs.length = K := ⟨_, rfl⟩
            rcases Nat.lt_or_ge L.length K with hKL | hKL
            · have HM : Hid (min L.length (n - xs.length) = L.length) := hide (by omega)
              have HTK : Hid (L.take (n - xs.length) = L.take L.length) := hide (by first | (rw [hK]; done) | (rw [List.take_of_length_le (by omega), List.take_of_length_le (by omega)]))
              have ew3 : IntKind.i64.wrap ((n : Int) - (xs.length : Int)) = (K : Int) := by rw [IntWalk.i64_in _ (by omega)]; omega
              have hML : L.length ≤ L.length := by omega
              have hM40 : L.length ≤ 40 := by omega
              have HKn := hide hK
              clear hK

              go_wp2_with fail
              obtain ⟨wX, hwX⟩ : ∃ wX, wr.alloc (.cells #[.int .i64 3, .int .i64 nn, .slice LA L.length lc] 37) = wX := ⟨_, rfl⟩
              rw [hwX] at HPX HOX HBX HZX c1 c2 ⊢
              clear hwX

              have hfill := fillI n _ _ xs LA lc L wX HPX.out (Kd.C_below HLC.out HBX.out)
              rw [HM.out, HTK.out] at hfill
              refine hfill.mono ?_
              rintro e wF ⟨rfl, ht, hp, hcF⟩
              have HPF := hide hp
              have HBF := hide (ht.below HBX.out HBX.out.size HLW.out)
              have HZF := hide (Nat.le_trans HZX.out ht.size)
              obtain ⟨_, hl7, hC7⟩ := Kd.Q_reads' (Q_turn HPX.out ht HOX.out)
              have HCI := hide hC7
              have HCL := hide (Kd.C_take hcF hML)
              have c2F := cell_turn HPX.out ht c2
              clear ht hp hfill HPX HBX HOX HZX c1 c2 hl7 hC7 hcF
              dsimp only
              obtain ⟨i3, hi3, hs3⟩ := hi3
              have hcut := cut_to (P := Try.prog) 22 3 .i64 Try.underlying22 hi3 LA L.length lc (L.length : Int) (by omega) (by omega) HLL.out
              rw [Int.toNat_natCast] at hcut
              clear hs3 hi3
              go_wp2_with fail
              have hI : (fun W' => W'.cell? ⟨wr.heap.size, 2, none⟩ = some (.slice LA L.length lc) ∧ Below wF.heap.size wF W') wF.drew := ⟨c2F, (Below.refl _ _).drew⟩
              have HD := hide (show Below wF.heap.size wF (wF.drew.alloc (.cells #[] 3)) from below_alloc (Below.refl _ _).drew _)
              have HCID := hide (Kd.C_below HCI.out HD.out)
              have HLT := hide (lit0 wF.drew wF.heap.size (Nat.le_refl _))
              go_region_held3 (fun W' => W'.cell? ⟨wr.heap.size, 2, none⟩ = some (.slice LA L.length lc) ∧ Below wF.heap.size wF W')
                (first | exact hI | exact ⟨cell_keep c2F HD.out, HD.out⟩ | exact ⟨cell_keep c2F HBA.out, HBA.out⟩ | exact ⟨cell_keep c2F HBZ.out, HBZ.out⟩)
                (first | (refine Kd.R_append_rows_step ki (Rr := ki.K (wF.drew.alloc (.cells #[] 3))) (w0 := wF) wF.heap.size rfl (.tmp 121) (.tmp 122) 22 3 (.int .i64 0) 8 rfl Try.underlying22 infozI rfl (by decide) (by decide) (.slice (some ⟨wF.heap.size, 0, none⟩) 0 0) [] xs Av xs.length cv (fun _ => True) (fun _ => False) rfl rfl HLT.out HCID.out (fun _ _ h => h) (fun k hk => hk.elim) (fun _ _ => trivial) HD.out HD.out.size (by simp; omega) ?_; intro v1 wA ho hb hg hown; rw [List.nil_append] at ho; have HOA := hide ho; have HBA := hide hb; clear ho hb hg hown) | (refine Kd.R_append_rows_step ki (Rr := ki.K wA) (w0 := wF) wF.heap.size rfl (.tmp 123) (.tmp 127) 22 3 (.int .i64 0) 8 rfl Try.underlying22 infozI rfl (by decide) (by decide) v1 xs (L.take L.length) LA L.length lc (fun _ => True) (fun _ => False) rfl rfl HOA.out (by have := Kd.C_below HCL.out HBA.out; rw [List.length_take, Nat.min_eq_left hML] at this; exact this) (fun _ _ h => h) (fun k hk => hk.elim) (fun _ _ => trivial) HBA.out HBA.out.size (by omega) ?_; intro v2 wZ ho hb hg hown; obtain ⟨ys, hys⟩ : ∃ ys, xs ++ L.take L.length = ys := ⟨_, rfl⟩; rw [hys] at ho; obtain ⟨AZ, cZ, rfl, _⟩ := Kd.R_reads ho; have HYS := hide hys; have HOZ := hide ho; have HBZ := hide hb; clear ho hb hg hown hys))
              have HPZ' := HPF.out.below HBZ.out
              rw [HYS.out] at HPZ'
              have HPZ := hide HPZ'
              have HOQ := hide (Kd.Q_of_R (Kd.R_lower HOZ.out HZF.out))
              have HBQ := hide (below_step HBF.out HBZ.out)
              have HZQ := hide (Nat.le_trans HZF.out HBZ.out.size)
              clear HPZ' HOZ HBZ HPF HBF HZF HCI HCL c2F hI HD HCID HLT HOA HBA hcut

              have hsz := HPZ.out.size
              have ew : IntKind.i64.wrap ((n : Int) - (ys.length : Int)) = ((n - ys.length : Nat) : Int) := by rw [IntWalk.i64_in _ (by omega)]; omega
              go_wp2_with fail
              refine (lenI n _ _ ys wZ HPZ.out).mono ?_
              rintro e w30 ⟨rfl, hb⟩
              have HP30 := hide (HPZ.out.below hb)
              have HO30 := hide (Kd.Q_below HOQ.out hb)
              have HB30 := hide (below_step HBQ.out hb)
              have HZ30 := hide (Nat.le_trans HZQ.out hb.size)
              clear hb HPZ HOQ HBQ HZQ
              dsimp only
              go_wp2_with fail
              refine (roomI n _ _ ys w30 HP30.out (by omega)).mono ?_
              rintro e w31 ⟨rfl, hb⟩
              have HP31 := hide (HP30.out.below hb)
              have HO31 := hide (Kd.Q_below HO30.out hb)
              have HB31 := hide (below_step HB30.out hb)
              have HZ31 := hide (Nat.le_trans HZ30.out hb.size)
              clear hb HP30 HO30 HB30 HZ30
              dsimp only
              go_wp2_with fail
              go_roundw
              case rel => exact ⟨k + 1, ys, by omega, by omega, by go_num, ⟨HO31.out⟩, ⟨HP31.out⟩, ⟨HB31.out⟩, ⟨HZ31.out⟩⟩
              case measure => simp only [intOf]; omega
            · have HM : Hid (min L.length (n - xs.length) = K) := hide (by omega)
              have HTK : Hid (L.take (n - xs.length) = L.take K) := hide (by first | (rw [hK]; done) | (rw [List.take_of_length_le (by omega), List.take_of_length_le (by omega)]))
              have ew3 : IntKind.i64.wrap ((n : Int) - (xs.length : Int)) = (K : Int) := by rw [IntWalk.i64_in _ (by omega)]; omega
              have hML : K ≤ L.length := by omega
              have hM40 : K ≤ 40 := by omega
              have HKn := hide hK
              clear hK

              go_wp2_with fail
              obtain ⟨wX, hwX⟩ : ∃ wX, wr.alloc (.cells #[.int .i64 3, .int .i64 nn, .slice LA L.length lc] 37) = wX := ⟨_, rfl⟩
              rw [hwX] at HPX HOX HBX HZX c1 c2 ⊢
              clear hwX

              have hfill := fillI n _ _ xs LA lc L wX HPX.out (Kd.C_below HLC.out HBX.out)
              rw [HM.out, HTK.out] at hfill
              refine hfill.mono ?_
              rintro e wF ⟨rfl, ht, hp, hcF⟩
              have HPF := hide hp
              have HBF := hide (ht.below HBX.out HBX.out.size HLW.out)
              have HZF := hide (Nat.le_trans HZX.out ht.size)
              obtain ⟨_, hl7, hC7⟩ := Kd.Q_reads' (Q_turn HPX.out ht HOX.out)
              have HCI := hide hC7
              have HCL := hide (Kd.C_take hcF hML)
              have c2F := cell_turn HPX.out ht c2
              clear ht hp hfill HPX HBX HOX HZX c1 c2 hl7 hC7 hcF
              dsimp only
              obtain ⟨i3, hi3, hs3⟩ := hi3
              have hcut := cut_to (P := Try.prog) 22 3 .i64 Try.underlying22 hi3 LA L.length lc (K : Int) (by omega) (by omega) HLL.out
              rw [Int.toNat_natCast] at hcut
              clear hs3 hi3
              go_wp2_with fail
              have hI : (fun W' => W'.cell? ⟨wr.heap.size, 2, none⟩ = some (.slice LA L.length lc) ∧ Below wF.heap.size wF W') wF.drew := ⟨c2F, (Below.refl _ _).drew⟩
              have HD := hide (show Below wF.heap.size wF (wF.drew.alloc (.cells #[] 3)) from below_alloc (Below.refl _ _).drew _)
              have HCID := hide (Kd.C_below HCI.out HD.out)
              have HLT := hide (lit0 wF.drew wF.heap.size (Nat.le_refl _))
              go_region_held3 (fun W' => W'.cell? ⟨wr.heap.size, 2, none⟩ = some (.slice LA L.length lc) ∧ Below wF.heap.size wF W')
                (first | exact hI | exact ⟨cell_keep c2F HD.out, HD.out⟩ | exact ⟨cell_keep c2F HBA.out, HBA.out⟩ | exact ⟨cell_keep c2F HBZ.out, HBZ.out⟩)
                (first | (refine Kd.R_append_rows_step ki (Rr := ki.K (wF.drew.alloc (.cells #[] 3))) (w0 := wF) wF.heap.size rfl (.tmp 121) (.tmp 122) 22 3 (.int .i64 0) 8 rfl Try.underlying22 infozI rfl (by decide) (by decide) (.slice (some ⟨wF.heap.size, 0, none⟩) 0 0) [] xs Av xs.length cv (fun _ => True) (fun _ => False) rfl rfl HLT.out HCID.out (fun _ _ h => h) (fun k hk => hk.elim) (fun _ _ => trivial) HD.out HD.out.size (by simp; omega) ?_; intro v1 wA ho hb hg hown; rw [List.nil_append] at ho; have HOA := hide ho; have HBA := hide hb; clear ho hb hg hown) | (refine Kd.R_append_rows_step ki (Rr := ki.K wA) (w0 := wF) wF.heap.size rfl (.tmp 123) (.tmp 127) 22 3 (.int .i64 0) 8 rfl Try.underlying22 infozI rfl (by decide) (by decide) v1 xs (L.take K) LA K lc (fun _ => True) (fun _ => False) rfl rfl HOA.out (by have := Kd.C_below HCL.out HBA.out; rw [List.length_take, Nat.min_eq_left hML] at this; exact this) (fun _ _ h => h) (fun k hk => hk.elim) (fun _ _ => trivial) HBA.out HBA.out.size (by omega) ?_; intro v2 wZ ho hb hg hown; obtain ⟨ys, hys⟩ : ∃ ys, xs ++ L.take K = ys := ⟨_, rfl⟩; rw [hys] at ho; obtain ⟨AZ, cZ, rfl, _⟩ := Kd.R_reads ho; have HYS := hide hys; have HOZ := hide ho; have HBZ := hide hb; clear ho hb hg hown hys))
              have HPZ' := HPF.out.below HBZ.out
              rw [HYS.out] at HPZ'
              have HPZ := hide HPZ'
              have HOQ := hide (Kd.Q_of_R (Kd.R_lower HOZ.out HZF.out))
              have HBQ := hide (below_step HBF.out HBZ.out)
              have HZQ := hide (Nat.le_trans HZF.out HBZ.out.size)
              clear HPZ' HOZ HBZ HPF HBF HZF HCI HCL c2F hI HD HCID HLT HOA HBA hcut

              have hsz := HPZ.out.size
              have ew : IntKind.i64.wrap ((n : Int) - (ys.length : Int)) = ((n - ys.length : Nat) : Int) := by rw [IntWalk.i64_in _ (by omega)]; omega
              go_wp2_with fail
              refine (lenI n _ _ ys wZ HPZ.out).mono ?_
              rintro e w30 ⟨rfl, hb⟩
              have HP30 := hide (HPZ.out.below hb)
              have HO30 := hide (Kd.Q_below HOQ.out hb)
              have HB30 := hide (below_step HBQ.out hb)
              have HZ30 := hide (Nat.le_trans HZQ.out hb.size)
              clear hb HPZ HOQ HBQ HZQ
              dsimp only
              go_wp2_with fail
              refine (roomI n _ _ ys w30 HP30.out (by omega)).mono ?_
              rintro e w31 ⟨rfl, hb⟩
              have HP31 := hide (HP30.out.below hb)
              have HO31 := hide (Kd.Q_below HO30.out hb)
              have HB31 := hide (below_step HB30.out hb)
              have HZ31 := hide (Nat.le_trans HZ30.out hb.size)
              clear hb HP30 HO30 HB30 HZ30
              dsimp only
              go_wp2_with fail
              go_roundw
              case rel => exact ⟨k + 1, ys, by omega, by omega, by go_num, ⟨HO31.out⟩, ⟨HP31.out⟩, ⟨HB31.out⟩, ⟨HZ31.out⟩⟩
              case measure => simp only [intOf]; omega
          · go_wp2_with fail
            obtain ⟨wX, hwX⟩ : ∃ wX, wr.alloc (.cells #[.int .i64 kd, .int .i64 nn, .slice LA L.length lc] 37) = wX := ⟨_, rfl⟩
            rw [hwX] at HPX HOX HBX HZX c1 c2 ⊢
            clear hwX

            refine (drainI n _ _ xs wX HPX.out (by omega)).mono ?_
            rintro e w2 ⟨v, rfl, hR, ht, hp⟩
            obtain ⟨A6, c6, rfl, hl6, hC6⟩ := Kd.R_reads hR
            have HP2 := hide hp
            have HB2 := hide (ht.below HBX.out HBX.out.size HLW.out)
            have HZ2 := hide (Nat.le_trans HZX.out ht.size)
            obtain ⟨_, hl7, hC7⟩ := Kd.Q_reads' (Q_turn HPX.out ht HOX.out)
            have hsame := PPipePlays.arbourbook_Same_int.calls (xs.length + 1) A6 c6 xs Av cv xs true w2 hC6 hl6 hC7 hl7 (same_ints' xs (by omega))
            have HSM := hide hsame
            clear ht hp hR hC6 hl6 hl7 hC7 hsame HPX HBX HOX HZX c1 c2
            dsimp only
            go_wp2_with fail
            refine HSM.out.mono ?_
            rintro e w3 ⟨rfl, hd⟩
            have HP3 := hide (HP2.out.below hd.below)
            have HB3 := hide (below_step HB2.out hd.below)
            have HZ3 := hide (Nat.le_trans HZ2.out hd.below.size)
            have HO3 := hide (Kd.Q_nil ki 3 w3 wB.heap.size (fun _ => True))
            clear hd HP2 HB2 HZ2 HSM
            dsimp only

            have hsz := HP3.out.size
            have ew : IntKind.i64.wrap ((n : Int) - (([] : List Int).length : Int)) = ((n - ([] : List Int).length : Nat) : Int) := by rw [IntWalk.i64_in _ (by omega)]; omega
            go_wp2_with fail
            refine (lenI n _ _ ([] : List Int) w3 HP3.out).mono ?_
            rintro e w30 ⟨rfl, hb⟩
            have HP30 := hide (HP3.out.below hb)
            have HO30 := hide (Kd.Q_below HO3.out hb)
            have HB30 := hide (below_step HB3.out hb)
            have HZ30 := hide (Nat.le_trans HZ3.out hb.size)
            clear hb HP3 HO3 HB3 HZ3
            dsimp only
            go_wp2_with fail
            refine (roomI n _ _ ([] : List Int) w30 HP30.out (by omega)).mono ?_
            rintro e w31 ⟨rfl, hb⟩
            have HP31 := hide (HP30.out.below hb)
            have HO31 := hide (Kd.Q_below HO30.out hb)
            have HB31 := hide (below_step HB30.out hb)
            have HZ31 := hide (Nat.le_trans HZ30.out hb.size)
            clear hb HP30 HO30 HB30 HZ30
            dsimp only
            go_wp2_with fail
            go_roundw
            case rel => exact ⟨k + 1, ([] : List Int), by omega, by omega, by go_num, ⟨HO31.out⟩, ⟨HP31.out⟩, ⟨HB31.out⟩, ⟨HZ31.out⟩⟩
            case measure => simp only [intOf]; omega
    · by_cases k5 : k < l.length
      · have k6 : ¬ k < 60 := fun h => hlt ⟨k5, h⟩
        have k7 : ¬ (k : Int) < 60 := by omega
        clear hlt
        go_wp2_with fail
        refine (known _).mono ?_
        rintro e w24 ⟨rfl, hb⟩
        have HB24 := hide (below_step HB.out hb)
        clear hb HB HP HO HZ
        dsimp only
        go_wp2_with fail
        go_ret
        exact ⟨rfl, HB24.out⟩
      · clear hlt
        go_wp2_with fail
        refine (known _).mono ?_
        rintro e w24 ⟨rfl, hb⟩
        have HB24 := hide (below_step HB.out hb)
        clear hb HB HP HO HZ
        dsimp only
        go_wp2_with fail
        go_ret
        exact ⟨rfl, HB24.out⟩
end Go.Proofs.Ytomfcaddlmkaoaa.Pipe
