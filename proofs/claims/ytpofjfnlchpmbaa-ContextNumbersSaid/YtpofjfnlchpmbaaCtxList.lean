/- The walk of arbourlaw20.list: the open elements, twice. -/
import Derived.Test.YtpofjfnlchpmbaaCtxLst
import Derived.Test.YtpofjfnlchpmbaaPContextTellsx1
import Derived.Test.YtpofjfnlchpmbaaPContextTellsx2
import Derived.Test.YtpofjfnlchpmbaaWApart
namespace Go.Proofs.Ytpofjfnlchpmbaa.Ctx
open Go.RowKit Go.Proofs.Ytpofjfnlchpmbaa.PContextTells Go.Proofs.YtpofjfnlchpmbaaW.PrintWords Go.Proofs.YtpofjfnlchpmbaaW.PrintLast

/-- What a number is named. -/
def nm (n : Int) : ByteArray := (arbourkeep_Names.f n).getD ByteArray.empty
theorem within0 (a : Int) (m : Nat) (h2 : m ≤ 2000000) : ∃ t : Int, 0 ≤ t ∧ t ≤ m ∧ arbourbook_Within.f a 0 m = some t := by
  have e1 : wrap64 (wrap64 ((m : Int) - 0) + 1) = m + 1 := by rw [IntWalk.wrap64_in _ (by rw [IntWalk.wrap64_in _ (by omega)]; omega), IntWalk.wrap64_in _ (by omega)]; omega
  have t1 := Int.tmod_lt_of_pos a (show (0 : Int) < (m : Int) + 1 by omega)
  have t2 := Int.lt_tmod_of_pos a (show (0 : Int) < (m : Int) + 1 by omega)
  unfold arbourbook_Within.f
  rw [e1, if_neg (by omega)]
  by_cases h : Int.tmod a ((m : Int) + 1) < 0
  · rw [if_pos h]
    refine ⟨_, ?_, ?_, rfl⟩ <;> (rw [IntWalk.wrap64_in (Int.tmod a ((m : Int) + 1) + m) (by omega), IntWalk.wrap64_in (Int.tmod a ((m : Int) + 1) + m - 0) (by omega), IntWalk.wrap64_in (Int.tmod a ((m : Int) + 1) + m - 0 + 1) (by omega), IntWalk.wrap64_in _ (by omega)]; omega)
  · rw [if_neg h]
    refine ⟨_, ?_, ?_, rfl⟩ <;> (rw [IntWalk.wrap64_in _ (by omega)]; omega)
theorem names_some (n : Int) : arbourkeep_Names.f n = some (nm n) := by
  have h : (arbourkeep_Names.f n).isSome = true := by
    obtain ⟨t, h0, h1, ht⟩ := within0 n 1048576 (by omega)
    have h2 := Int.tmod_lt_of_pos t (show (0 : Int) < 48 by omega)
    have h3 := Int.tmod_nonneg 48 h0
    unfold arbourkeep_Names.f
    rw [show ((1048576 : Nat) : Int) = 1048576 from rfl] at ht
    rw [Option.bind_some, ht, Option.bind_some]
    rw [if_neg (by simp), if_pos (by simpa using h3), if_pos (by simpa using h2)]
    rfl
  obtain ⟨r, hr⟩ := Option.isSome_iff_exists.1 h
  unfold nm
  rw [hr]
  rfl
theorem names (n : Int) (w : World) : Calls Try.prog 15 #[.int .i64 n] w fun e w' => e = .returned (.string (nm n)) ∧ Below w.heap.size w w' := arbourkeep_Names.calls n (nm n) w (names_some n)

abbrev kEl : Kd (Int × Bool) := Kd.pair (Kd.int .i64) Kd.bool
theorem el_at {w : World} {A : Option Addr} {l : List (Int × Bool)} (h : kEl.C w A l.length l) (i : Nat) (hi : i < l.length) : ∃ ad, A = some ad ∧ w.cell? (ad.add (i * 2)) = some (.int .i64 (l.getD i (0, false)).1) ∧ w.cell? ⟨(ad.add (i * 2)).block, (ad.add (i * 2)).off + 1, none⟩ = some (.bool (l.getD i (0, false)).2) := by
  obtain ⟨ad, rfl, hc⟩ := h.2.2 (by omega)
  obtain ⟨cs, hl, hK, hcell⟩ := hc i _ (List.getElem?_eq_getElem hi)
  obtain ⟨c0, c1, rfl, h0, h1⟩ := hK
  have e0 : c0 = [.int .i64 l[i].1] := h0
  have e1 : c1 = [.bool l[i].2] := h1
  subst e0; subst e1
  have eg : l.getD i (0, false) = l[i] := by rw [List.getD_eq_getElem?_getD, List.getElem?_eq_getElem hi]; rfl
  rw [eg]
  exact ⟨ad, rfl, hcell 0 _ rfl, by rw [← add_field _ _ 1 (by omega)]; exact hcell 1 _ rfl⟩
def it (l : List (Int × Bool)) (i : Nat) : It := ⟨(i : Int) + 1, if (l.getD i (0, false)).2 then 2 else 1, nm (l.getD i (0, false)).1⟩
def itsN (l : List (Int × Bool)) (k : Nat) : List It := (List.range k).map (it l)
theorem itsN_succ (l : List (Int × Bool)) (k : Nat) : itsN l (k + 1) = itsN l k ++ [it l k] := by simp [itsN, List.range_succ]
theorem itsN_len (l : List (Int × Bool)) (k : Nat) : (itsN l k).length = k := by simp [itsN]
/-- Two rows lie in different blocks. -/
def Sep (u v : Value) : Prop := ∀ k, u.ownBlock = some k → v.ownBlock ≠ some k
theorem kIt_E : kIt.E = [] := rfl
theorem R_kept {w w' : World} {base s : Nat} {u v : Value} {xs : List It} (h : kIt.R 52 w base (fun _ => True) u xs) (hk : KeepBut w w' s v.ownBlock) (hs : some s ≠ u.ownBlock) (hsep : Sep v u) : kIt.R 52 w' base (fun _ => True) u xs :=
  Kd.R_mono (Kd.R_step (Kd.R_tight kIt_E h) (fun k hk2 hlt => hk.2 k hlt (fun e => hs (by rw [← e]; exact hk2)) (fun e => hsep k e.symm hk2.symm))) (fun _ _ => trivial)
theorem R_sepg {w w' : World} {base : Nat} {u v : Value} {xs : List It} (h : kIt.R 52 w base (fun _ => True) u xs) (hg : w.grownBy w' v.ownBlock) (hsep : Sep v u) : kIt.R 52 w' base (fun _ => True) u xs :=
  Kd.R_mono (Kd.R_step (Kd.R_tight kIt_E h) (fun k hk2 hlt => hg.block k hlt (fun e => hsep k e.symm hk2.symm))) (fun _ _ => trivial)
theorem Sep.grown {w : World} {base : Nat} {u u1 v : Value} {xs : List It} (hs : Sep u v) (hown : u1.ownBlock = u.ownBlock ∨ ∃ b, u1.ownBlock = some b ∧ w.heap.size ≤ b) (hv : kIt.R 52 w base (fun _ => True) v xs) : Sep u1 v := by
  intro k h1 h2
  rcases hown with h | ⟨b, h, hb⟩
  · exact hs k (h ▸ h1) h2
  · rw [h] at h1
    cases h1
    have := Kd.R_lt hv k h2
    omega
theorem Sep.symm {u v : Value} (h : Sep u v) : Sep v u := fun k h1 h2 => h k h2 h1
set_option maxHeartbeats 4000000 in
set_option maxRecDepth 100000 in
theorem list (A : Option Addr) (c : Nat) (l : List (Int × Bool)) (w : World) (hl : kEl.C w A l.length l) : Calls Try.prog 18 #[.slice A l.length c] w fun e w' =>
    ∃ g s v vo, e = .returned (.tuple #[.pointer (some ⟨g, 0, none⟩), vo]) ∧ Lst w.heap.size g s v (itsN l (min l.length 20)) w' ∧ kIt.R 52 w' w.heap.size (fun _ => True) vo (itsN l (min l.length 20)) ∧ Below w.heap.size w w' := by
  have HC := hide hl
  clear hl
  go_enter Try.func18, Try.ntmps18
  go_wp2_with fail
  refine (lnew w.heap.size w (Nat.le_refl _)).mono ?_
  rintro e w1 ⟨g, s, rfl, hl, hb⟩
  have HL1 := hide hl
  have HB1 := hide hb
  clear hl hb
  dsimp only
  go_wp2_with fail
  go_loopw [5, 6] (fun vo i wr => ∃ (k : Nat) (v : Value), k ≤ l.length ∧ k ≤ 20 ∧ i = .int .i64 k ∧ Aside0 (Lst w.heap.size g s v (itsN l k) wr) ∧ Aside0 (kIt.R 52 wr w.heap.size (fun _ => True) vo (itsN l k)) ∧ Aside0 (Sep v vo) ∧ Aside0 (Below w.heap.size w wr)) (fun _ i _ => 20 - (intOf i).toNat)
  case atStart => exact ⟨0, _, by omega, by omega, rfl, ⟨HL1.out⟩, ⟨Kd.R_nil _ _ _ _ _⟩, ⟨fun k h => by simp [Value.ownBlock] at h⟩, ⟨HB1.out⟩⟩
  case round =>
    clear HL1 HB1
    obtain ⟨k, v, hk1, hk2, rfl, HL, HO, HS, HB⟩ := hrel
    by_cases hlt : k < l.length ∧ k < 20
    · have k1 : k < l.length := hlt.1
      have k2 : k < 20 := hlt.2
      have k3 : (k : Int) < 20 := by omega
      have k0 : (0 : Int) ≤ k := by omega
      obtain ⟨ad, hA, hn, hs⟩ := el_at HC.out k k1
      subst hA
      have hn1 := (HB.out.cell (World.block_lt_of_cell? _ _ hn)).trans hn
      obtain ⟨nn, hnn⟩ : ∃ nn, (l.getD k (0, false)).1 = nn := ⟨_, rfl⟩
      obtain ⟨nmv, hnmv⟩ : ∃ nmv, nm nn = nmv := ⟨_, rfl⟩
      rw [hnn] at hn1
      have hnames := names nn wr
      rw [hnmv] at hnames
      have HNA := hide hnames
      have HSV := hide hs
      clear hn hs hnames
      go_wp2_with fail
      refine HNA.out.mono ?_
      rintro e w2 ⟨rfl, hb⟩
      have HL2 := hide (HL.out.below hb)
      have HO2 := hide (Kd.R_below HO.out hb)
      have HB2 := hide (below_step HB.out hb)
      have hs2 := (HB2.out.cell (World.block_lt_of_cell? _ _ HSV.out)).trans HSV.out
      have hs3 := ((below_alloc (Below.refl w2.heap.size w2) (.cells #[.int .i64 ((k : Int) + 1), .int .i64 1, .string nmv, .slice none 0 0] 52)).cell (World.block_lt_of_cell? _ _ hs2)).trans hs2
      have HNN := hide hnn
      have HNM := hide hnmv
      clear hb HL HO HB HNA HSV hn1 hnn hnmv
      dsimp only
      have e1 : IntKind.i64.wrap ((k : Int) + 1) = (k : Int) + 1 := IntWalk.i64_in _ (by omega)
      rcases hsv : (l.getD k (0, false)).2 with _ | _
      · rw [hsv] at hs2 hs3
        have HIT := hide (show it l k = ⟨(k : Int) + 1, 1, nmv⟩ by unfold it; rw [hsv, HNN.out, HNM.out]; rfl)
        clear hsv
        go_wp2_with fail
        obtain ⟨wX, hX⟩ : ∃ wX, w2.alloc (.cells #[.int .i64 ((k : Int) + 1), .int .i64 1, .string nmv, .slice none 0 0] 52) = wX := ⟨_, rfl⟩
        have HBX := hide (show Below w2.heap.size w2 wX by rw [← hX]; exact below_alloc (Below.refl _ _) _)
        have HNEW := hide (show wX.heap[w2.heap.size]? = some (.cells #[.int .i64 ((k : Int) + 1), .int .i64 1, .string nmv, .slice none 0 0] 52 (0, 0)) by rw [← hX]; exact heap_alloc_new w2 _)
        rw [hX]
        clear hX hs3
        have hsz2 : w2.heap.size < wX.heap.size := blk_lt HNEW.out
        have HLX := hide (HL2.out.below HBX.out)
        have HOX := hide (Kd.R_below HO2.out HBX.out)
        have HBBX := hide (below_step HB2.out HBX.out)
        refine (lpush w.heap.size g s v (itsN l k) ⟨(k : Int) + 1, 1, nmv⟩ wX HLX.out HBBX.out.size (by rw [itsN_len]; omega)).mono ?_
        rintro e w3 ⟨rfl, v1, hl3, hp3⟩
        have HL3 := hide hl3
        have HP3 := hide hp3
        have hnew3 := (hp3.keep.2 w2.heap.size hsz2 (by have := blk_lt HL2.out.stk; omega) (fun e => by have := Kd.R_lt HL2.out.row _ e.symm; omega)).trans HNEW.out
        have HO3 := hide (R_kept HOX.out hp3.keep (Kd.R_ne HOX.out HLX.out.stk (by decide)) HS.out)
        have HS3 := hide (Sep.grown HS.out hp3.own HOX.out)
        have HB3 := hide (show Below w.heap.size w w3 from HBBX.out.trans (hp3.below HLX.out.bs (fun k e => Kd.R_base HLX.out.row k e) HBBX.out.size))
        have HNEW3 := hide hnew3
        have z0 : w3.cell? ⟨w2.heap.size, 0, none⟩ = some (.int .i64 ((k : Int) + 1)) := cell_of_row w3 _ 0 _ _ _ hnew3
        have z1 : w3.cell? ⟨w2.heap.size, 1, none⟩ = some (.int .i64 1) := cell_of_row w3 _ 1 _ _ _ hnew3
        have z2 : w3.cell? ⟨w2.heap.size, 2, none⟩ = some (.string nmv) := cell_of_row w3 _ 2 _ _ _ hnew3
        have z3 : w3.cell? ⟨w2.heap.size, 3, none⟩ = some (.slice none 0 0) := cell_of_row w3 _ 3 _ _ _ hnew3
        have HM := hide (kIt_M w3 w.heap.size (fun _ => False) ⟨(k : Int) + 1, 1, nmv⟩)
        have hz3 : w.heap.size ≤ w3.heap.size := HB3.out.size
        have HKL := hide (itsN_len l k)
        clear hl3 hp3 hnew3 hsz2 HL2 HO2 HB2 HLX HOX HBBX HBX HNEW HS hs2
        dsimp only
        go_wp2_with (at_builtin; refine Kd.R_append kIt (w0 := w3) w.heap.size rfl (.tmp 41) (.tmp 43) 47 52 (.agg #[.int .i64 0, .int .i64 0, .string ⟨#[]⟩, .slice none 0 0]) 56 rfl Try.underlying47 info52 rfl (by decide) (by decide) _ (itsN l k) ⟨(k : Int) + 1, 1, nmv⟩ [.int .i64 ((k : Int) + 1), .int .i64 1, .string nmv, .slice none 0 0] (fun _ => True) (fun _ => False) rfl rfl HM.out (fun k hk => hk.elim) (fun _ _ => trivial) HO3.out (Below.refl _ _) hz3 (by rw [HKL.out]; omega) ?_; intro v4 w4 ho hb hg hown; have HO4 := hide ho; have HBB := hide hb; have HG := hide hg; have HW := hide hown; clear ho hb hg hown)
        have hL4 : Lst w.heap.size g s v1 (itsN l (k + 1)) w4 := by
          rw [itsN_succ, HIT.out]
          refine ⟨(HG.out.block g (blk_lt HL3.out.ptr) (Kd.R_ne HO3.out HL3.out.ptr (by decide))).trans HL3.out.ptr, (HG.out.block s (blk_lt HL3.out.stk) (Kd.R_ne HO3.out HL3.out.stk (by decide))).trans HL3.out.stk, R_sepg HL3.out.row HG.out HS3.out.symm, HL3.out.bg, HL3.out.bs⟩
        have hO4 := HO4.out
        rw [show itsN l k ++ [⟨(k : Int) + 1, 1, nmv⟩] = itsN l (k + 1) by rw [itsN_succ, HIT.out]] at hO4
        have hS4 := (Sep.grown HS3.out.symm HW.out HL3.out.row).symm
        go_roundw
        case rel => exact ⟨k + 1, v1, by omega, by omega, by go_num, ⟨hL4⟩, ⟨hO4⟩, ⟨hS4⟩, ⟨HB3.out.trans HBB.out⟩⟩
        case measure => simp only [intOf]; omega
      · rw [hsv] at hs2 hs3
        have HIT := hide (show it l k = ⟨(k : Int) + 1, 2, nmv⟩ by unfold it; rw [hsv, HNN.out, HNM.out]; rfl)
        clear hsv
        go_wp2_with fail
        obtain ⟨wX, hX⟩ : ∃ wX, w2.alloc (.cells #[.int .i64 ((k : Int) + 1), .int .i64 2, .string nmv, .slice none 0 0] 52) = wX := ⟨_, rfl⟩
        have HBX := hide (show Below w2.heap.size w2 wX by rw [← hX]; exact below_alloc (Below.refl _ _) _)
        have HNEW := hide (show wX.heap[w2.heap.size]? = some (.cells #[.int .i64 ((k : Int) + 1), .int .i64 2, .string nmv, .slice none 0 0] 52 (0, 0)) by rw [← hX]; exact heap_alloc_new w2 _)
        rw [hX]
        clear hX hs3
        have hsz2 : w2.heap.size < wX.heap.size := blk_lt HNEW.out
        have HLX := hide (HL2.out.below HBX.out)
        have HOX := hide (Kd.R_below HO2.out HBX.out)
        have HBBX := hide (below_step HB2.out HBX.out)
        refine (lpush w.heap.size g s v (itsN l k) ⟨(k : Int) + 1, 2, nmv⟩ wX HLX.out HBBX.out.size (by rw [itsN_len]; omega)).mono ?_
        rintro e w3 ⟨rfl, v1, hl3, hp3⟩
        have HL3 := hide hl3
        have HP3 := hide hp3
        have hnew3 := (hp3.keep.2 w2.heap.size hsz2 (by have := blk_lt HL2.out.stk; omega) (fun e => by have := Kd.R_lt HL2.out.row _ e.symm; omega)).trans HNEW.out
        have HO3 := hide (R_kept HOX.out hp3.keep (Kd.R_ne HOX.out HLX.out.stk (by decide)) HS.out)
        have HS3 := hide (Sep.grown HS.out hp3.own HOX.out)
        have HB3 := hide (show Below w.heap.size w w3 from HBBX.out.trans (hp3.below HLX.out.bs (fun k e => Kd.R_base HLX.out.row k e) HBBX.out.size))
        have HNEW3 := hide hnew3
        have z0 : w3.cell? ⟨w2.heap.size, 0, none⟩ = some (.int .i64 ((k : Int) + 1)) := cell_of_row w3 _ 0 _ _ _ hnew3
        have z1 : w3.cell? ⟨w2.heap.size, 1, none⟩ = some (.int .i64 2) := cell_of_row w3 _ 1 _ _ _ hnew3
        have z2 : w3.cell? ⟨w2.heap.size, 2, none⟩ = some (.string nmv) := cell_of_row w3 _ 2 _ _ _ hnew3
        have z3 : w3.cell? ⟨w2.heap.size, 3, none⟩ = some (.slice none 0 0) := cell_of_row w3 _ 3 _ _ _ hnew3
        have HM := hide (kIt_M w3 w.heap.size (fun _ => False) ⟨(k : Int) + 1, 2, nmv⟩)
        have hz3 : w.heap.size ≤ w3.heap.size := HB3.out.size
        have HKL := hide (itsN_len l k)
        clear hl3 hp3 hnew3 hsz2 HL2 HO2 HB2 HLX HOX HBBX HBX HNEW HS hs2
        dsimp only
        go_wp2_with (at_builtin; refine Kd.R_append kIt (w0 := w3) w.heap.size rfl (.tmp 41) (.tmp 43) 47 52 (.agg #[.int .i64 0, .int .i64 0, .string ⟨#[]⟩, .slice none 0 0]) 56 rfl Try.underlying47 info52 rfl (by decide) (by decide) _ (itsN l k) ⟨(k : Int) + 1, 2, nmv⟩ [.int .i64 ((k : Int) + 1), .int .i64 2, .string nmv, .slice none 0 0] (fun _ => True) (fun _ => False) rfl rfl HM.out (fun k hk => hk.elim) (fun _ _ => trivial) HO3.out (Below.refl _ _) hz3 (by rw [HKL.out]; omega) ?_; intro v4 w4 ho hb hg hown; have HO4 := hide ho; have HBB := hide hb; have HG := hide hg; have HW := hide hown; clear ho hb hg hown)
        have hL4 : Lst w.heap.size g s v1 (itsN l (k + 1)) w4 := by
          rw [itsN_succ, HIT.out]
          refine ⟨(HG.out.block g (blk_lt HL3.out.ptr) (Kd.R_ne HO3.out HL3.out.ptr (by decide))).trans HL3.out.ptr, (HG.out.block s (blk_lt HL3.out.stk) (Kd.R_ne HO3.out HL3.out.stk (by decide))).trans HL3.out.stk, R_sepg HL3.out.row HG.out HS3.out.symm, HL3.out.bg, HL3.out.bs⟩
        have hO4 := HO4.out
        rw [show itsN l k ++ [⟨(k : Int) + 1, 2, nmv⟩] = itsN l (k + 1) by rw [itsN_succ, HIT.out]] at hO4
        have hS4 := (Sep.grown HS3.out.symm HW.out HL3.out.row).symm
        go_roundw
        case rel => exact ⟨k + 1, v1, by omega, by omega, by go_num, ⟨hL4⟩, ⟨hO4⟩, ⟨hS4⟩, ⟨HB3.out.trans HBB.out⟩⟩
        case measure => simp only [intOf]; omega
    · have HK := hide (show k = min l.length 20 by
        rcases Nat.lt_or_ge k l.length with h | h
        · have : ¬ k < 20 := fun h2 => hlt ⟨h, h2⟩
          omega
        · omega)
      by_cases k5 : k < l.length
      · have k6 : ¬ k < 20 := fun h => hlt ⟨k5, h⟩
        have k7 : ¬ (k : Int) < 20 := by omega
        clear hlt
        go_wp2_with fail
        go_ret2
        rw [← HK.out]
        exact ⟨g, s, v, _, rfl, HL.out, HO.out, HB.out⟩
      · clear hlt
        go_wp2_with fail
        go_ret2
        rw [← HK.out]
        exact ⟨g, s, v, _, rfl, HL.out, HO.out, HB.out⟩
end Go.Proofs.Ytpofjfnlchpmbaa.Ctx
