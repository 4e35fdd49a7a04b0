/- The walk of ArenaTexts: true. -/
import Derived.Test.YtjebpaapkmbahaaArTextsP
import Derived.Test.YtjebpaapkmbahaaArWithin
namespace Go.Proofs.Ytjebpaapkmbahaa.Ar
open Go.RowKit Go.Proofs.Ytjebpaapkmbahaa.PArenaPlays Go.Proofs.YtjebpaapkmbahaaW.PrintWords Go.Proofs.YtjebpaapkmbahaaW.PrintLast
set_option linter.unusedVariables false
set_option linter.unusedSimpArgs false
theorem cell_at {α : Type} {enc : α → Value} {h1 : ∀ x, (enc x).oneCell' = true} {w : World} {A : Option Addr} {xs : List α} (h : (Kd.scalar enc h1).C w A xs.length xs) (z : α) (i : Nat) (hi : i < xs.length) : ∃ ad, A = some ad ∧ w.cell? (ad.add i) = some (enc (xs.getD i z)) := by
  obtain ⟨ad, cs, rfl, hcs, hK, hcell⟩ := Kd.C_get h z (i : Int) (by omega) (by omega)
  have hcs2 : cs = [enc (xs.getD i z)] := hK
  subst hcs2
  have h0 := hcell 0 _ rfl
  have ei : (i : Int).toNat * (Kd.scalar enc h1).sz + 0 = i := by show (i : Int).toNat * 1 + 0 = i; omega
  rw [ei] at h0
  exact ⟨ad, rfl, h0⟩
theorem infozS : (Try.prog.info? 9).map (fun i => (i.zero, i.size, i.bytes)) = some (some (.string ⟨#[]⟩), 1, 16) := by kernel_rfl
/-- Behind i pieces. -/
structure TxR (w : World) (g k i : Nat) (a b : ByteArray) (W : World) : Prop where
  ka : KA w g (LT (decide (k < i)) a b) W
  sa : a.size ≤ 9 * i
  sb : b.size ≤ 9 * i
  e : ¬ k < i → b = ⟨#[]⟩
theorem KA.put {w W : World} {g : Nat} {ph : Bool} {a b a2 b2 : ByteArray} (h : KA w g (LT ph a b) W) (p : Int) (s : ByteArray) (n : Nat) (ha : a.size ≤ n) (hb : b.size ≤ n) (hs : s.size ≤ 9) (hn : n ≤ 1000) (he : writeL (LT ph a b) p s = (0, LT ph a2 b2)) :
    Calls Try.prog 16 #[.pointer (some ⟨g, 0, none⟩), .int .i64 p, .string s] W fun e w' => e = .returned (.int .i64 0) ∧ KA w g (LT ph a2 b2) w' :=
  h.write (okLT ph a b) (by have := (LT_len ph a b).1; omega) p s (by have := (LT_len ph a b).2; omega) (LT_txt ph a b s n ha hb hs hn) he
theorem KA.pure {w W : World} {g : Nat} {l : List S72} (h : KA w g l W) (hl : OkL l) (h0 : 0 < l.length) (hz : szT l 0 ≤ 100000000) :
    Calls Try.prog 17 #[.pointer (some ⟨g, 0, none⟩), .int .i64 0] W fun e w' => ∃ v, e = .returned (.tuple #[v, .int .i64 0]) ∧ TV w' v (Tn l 0) ∧ KA w g l w' := by
  obtain ⟨gl, cap, hO⟩ := h.ar.open_ h0
  refine (pure_ hO hl.toPureOk 0 h0 hz).mono ?_
  rintro e w' ⟨v, rfl, hT, hB⟩
  exact ⟨v, rfl, hT.now, h.below hB⟩
theorem TV.box {w : World} {v : Value} {ks : List S35} (h : TV w v (labT docT [labT pT ks])) : ∃ (A3 : Option Addr) (c3 c5 : Nat) (ad : Addr) (A6 : Option Addr) (c6 : Nat), v = .agg #[.int .i64 1, .int .i64 0, .string ⟨#[]⟩, .slice A3 0 c3, .string ⟨#[]⟩, .slice (some ad) 1 c5] ∧ w.cell? ⟨ad.block, ad.off + 5, none⟩ = some (.slice A6 ks.length c6) ∧ ks.length ≤ c6 ∧ k35.C w A6 ks.length ks := by
  obtain ⟨A3, c3, A5, c5, rfl, _, _, _, g5⟩ := h
  obtain ⟨ad, _, _, A6, c6, rfl, _, _, _, _, _, e5, _, _, l6, g6⟩ := at_T35 g5 0 (by decide) (by show (0 : Int) < ((1 : Nat) : Int); decide)
  have ez : ad.add ((0 : Int).toNat * 6) = ad := by
    show ad.add 0 = ad
    unfold Addr.add
    split <;> simp_all
  rw [ez] at e5
  exact ⟨A3, c3, c5, ad, A6, c6, rfl, e5, l6, g6⟩
theorem want_len (ph : Bool) (a b : ByteArray) : (wantL ph a b).length ≤ 3 := by
  unfold wantL
  cases nil a <;> cases ph <;> cases nil b <;> simp
theorem want_at (ks : List S35) (j : Nat) (h : j < ks.length) : (ks.map (fun x => x.f4)).getD j ⟨#[]⟩ = (rd_T35 ks (j : Int)).f4 := by
  unfold rd_T35
  rw [Int.toNat_natCast, List.getD_eq_getElem?_getD, List.getD_eq_getElem?_getD, List.getElem?_map, List.getElem?_eq_getElem h]
  rfl
theorem size_app (a s : ByteArray) (i : Nat) (ha : a.size ≤ 9 * i) (hs : s.size ≤ 9) : (a ++ s).size ≤ 9 * (i + 1) := by
  rw [ByteArray.size_append]
  omega
set_option maxHeartbeats 8000000 in
set_option maxRecDepth 100000 in
theorem texts (A : Option Addr) (c : Nat) (l : List ByteArray) (a1 : Int) (w : World) (hl : Kd.string.C w A l.length l ∧ l.length ≤ c) :
    Calls Try.prog 3 #[.slice A l.length c, .int .i64 a1] w fun e w' => e = .returned (.bool true) ∧ Below w.heap.size w w' := by
  obtain ⟨k, hk, hwi⟩ := within a1 10 (by omega) (z := 10) rfl
  have HW := hide hwi
  have HC := hide hl.1
  have hmx := hl.1.2.1
  unfold maxLen at hmx
  have H0 := hide (KA.new w)
  clear hl hwi
  obtain ⟨n, hn⟩ : ∃ n, l.length = n := ⟨_, rfl⟩
  have HN := hide hn
  rw [hn] at hmx ⊢
  clear hn
  go_enter Try.func3, Try.ntmps3
  go_wp2_with (first | (go_at_call 11; (with_reducible refine H0.out.mono ?_); rintro e w' ⟨g, rfl, h0⟩; have H1 := hide (h0.make (by decide) 3 1 ⟨#[112]⟩ ⟨#[]⟩ (by decide) tx_m); clear h0) | (go_at_call 12; (with_reducible refine H1.out.mono ?_); rintro e w' ⟨rfl, h1⟩; have H2 := hide (h1.make (by decide) 5 0 ⟨#[]⟩ ⟨#[99]⟩ (by decide) tx_c); clear h1) | (go_at_call 12; (with_reducible refine H2.out.mono ?_); rintro e w' ⟨rfl, h2⟩; have H3 := hide (h2.append ok_tx (by decide) 0 1 tx_a); clear h2) | (go_at_call 13; (with_reducible refine H3.out.mono ?_); rintro e w3 ⟨rfl, h3⟩; have H4 := hide h3; clear h3) | (go_at_call 14; (with_reducible refine (HW.out _).mono ?_); rintro e w4 ⟨rfl, ⟨nq, rfl⟩⟩; have H5 := hide (H4.out.below (pw_below_drewN (Below.refl _ _) nq))))
  go_loopw [11, 12, 13] (fun av bv iv wr => ∃ (a b : ByteArray) (i : Nat), av = .string a ∧ bv = .string b ∧ iv = .int .i64 (i : Int) ∧ i ≤ n ∧ i ≤ 10 ∧ Aside0 (TxR w g k i a b wr)) (fun _ _ iv _ => 10 - (intOf iv).toNat)
  case atStart => exact ⟨⟨#[]⟩, ⟨#[]⟩, 0, rfl, rfl, rfl, Nat.zero_le _, by omega, ⟨by have e0 : decide (k < 0) = false := decide_eq_false (by omega); exact ⟨by rw [e0, LT_start]; exact H5.out, Nat.le_refl 0, Nat.le_refl 0, fun _ => rfl⟩⟩⟩
  case round =>
    clear H0 H1 H2 H3 H4 H5
    obtain ⟨a, b, i, rfl, rfl, rfl, hin, hi10, hrel⟩ := hrel
    have HR := hide hrel.out
    by_cases hlt : i < n ∧ i < 10
    · have hkl : i < l.length := by rw [HN.out]; exact hlt.1
      obtain ⟨ad, rfl, hc0⟩ := cell_at HC.out ⟨#[]⟩ i hkl
      obtain ⟨x, hx⟩ : ∃ x, l.getD i ⟨#[]⟩ = x := ⟨_, rfl⟩
      rw [hx] at hc0
      have hc := cellW hc0 HR.out.ka.b
      have hlt1 : i < n := hlt.1
      have hlt2 : i < 10 := hlt.2
      have hlt3 : (i : Int) < 10 := by omega
      have hlt4 : (0 : Int) ≤ i := by omega
      obtain ⟨s, hs⟩ : ∃ s, headL x = s := ⟨_, rfl⟩
      have hss : s.size ≤ 9 := by rw [← hs]; exact (head_some x).2.1
      have HH := hide (head x)
      rw [hs] at HH
      have HC0 := hide hc0
      clear hc0 hx hs
      rcases Nat.lt_trichotomy i k with hik | hik | hik
      · have hne : ¬ (i : Int) = (k : Int) := by omega
        have hlk : (i : Int) < (k : Int) := by omega
        have ed : decide (k < i) = false := decide_eq_false (by omega)
        have ed2 : decide (k < i + 1) = false := decide_eq_false (by omega)
        have hk1 := HR.out.ka
        rw [ed] at hk1
        have H1 := hide (fun W (hb : Below wr.heap.size wr W) => (hk1.below hb).put 1 s 90 (by have := HR.out.sa; omega) (by have := HR.out.sb; omega) hss (by omega) (putA a s b))
        clear hk1 hrel
        have HX := hide hss
        have hS : ¬ 9223372036854775807 < a.size + s.size := by have := HR.out.sa; omega
        clear hss
        go_wp2_with (first | (go_at_call 15; (with_reducible refine (HH.out _).mono ?_); rintro e w5 ⟨rfl, ⟨nq, rfl⟩⟩; have H2 := hide (H1.out _ (pw_below_drewN (Below.refl _ _) nq))) | (go_at_call 16; (with_reducible refine H2.out.mono ?_); rintro e w6 ⟨rfl, h6⟩; have H3 := hide (h6.put 0 s 99 (by have := size_app a s i HR.out.sa HX.out; omega) (by have := HR.out.sb; omega) HX.out (by omega) (LT_void _ _ _ s)); clear h6) | (go_at_call 16; (with_reducible refine H3.out.mono ?_); rintro e w7 ⟨rfl, h7⟩; have H4 := hide h7; clear h7))
        go_roundw
        case rel => exact ⟨a ++ s, b, i + 1, rfl, rfl, rfl, by omega, by omega, ⟨⟨by rw [ed2]; exact H4.out, size_app a s i HR.out.sa HX.out, by have := HR.out.sb; omega, fun _ => HR.out.e (by omega)⟩⟩⟩
        case measure => (try simp only [intOf]); omega
      · subst hik
        have ed : decide (i < i) = false := decide_eq_false (by omega)
        have ed2 : decide (i < i + 1) = true := decide_eq_true (by omega)
        have eb := HR.out.e (by omega)
        subst eb
        have hk1 := HR.out.ka
        rw [ed] at hk1
        have H1 := hide (hk1.append (okLT _ _ _) (by have := (LT_len false a ⟨#[]⟩).1; omega) 1 2 (appC a))
        clear hk1 hrel
        have HX := hide hss
        have hS : ¬ 9223372036854775807 < (⟨#[]⟩ : ByteArray).size + s.size := by show ¬ 9223372036854775807 < 0 + s.size; omega
        clear hss hc
        go_wp2_with (first | (go_at_call 13; (with_reducible refine H1.out.mono ?_); rintro e w4 ⟨rfl, h4⟩; have H2 := hide h4; have hc4 := cellW HC0.out h4.b; clear h4) | (go_at_call 15; (with_reducible refine (HH.out _).mono ?_); rintro e w5 ⟨rfl, ⟨nq, rfl⟩⟩; have H3 := hide ((H2.out.below (pw_below_drewN (Below.refl _ _) nq)).put 1 s 90 (by have := HR.out.sa; omega) (by show 0 ≤ 90; omega) HX.out (by omega) (putB a s ⟨#[]⟩))) | (go_at_call 16; (with_reducible refine H3.out.mono ?_); rintro e w6 ⟨rfl, h6⟩; have H4 := hide (h6.put 0 s 99 (by have := HR.out.sa; omega) (by have := size_app ⟨#[]⟩ s i HR.out.sb HX.out; omega) HX.out (by omega) (LT_void _ _ _ s)); clear h6) | (go_at_call 16; (with_reducible refine H4.out.mono ?_); rintro e w7 ⟨rfl, h7⟩; have H5 := hide h7; clear h7))
        go_roundw
        case rel => exact ⟨a, ⟨#[]⟩ ++ s, i + 1, rfl, rfl, rfl, by omega, by omega, ⟨⟨by rw [ed2]; exact H5.out, by have := HR.out.sa; omega, size_app ⟨#[]⟩ s i HR.out.sb HX.out, fun h => absurd (by omega) h⟩⟩⟩
        case measure => (try simp only [intOf]); omega
      · have hne : ¬ (i : Int) = (k : Int) := by omega
        have hlk : ¬ (i : Int) < (k : Int) := by omega
        have ed : decide (k < i) = true := decide_eq_true (by omega)
        have ed2 : decide (k < i + 1) = true := decide_eq_true (by omega)
        have hk1 := HR.out.ka
        rw [ed] at hk1
        have H1 := hide (fun W (hb : Below wr.heap.size wr W) => (hk1.below hb).put 1 s 90 (by have := HR.out.sa; omega) (by have := HR.out.sb; omega) hss (by omega) (putB a s b))
        clear hk1 hrel
        have HX := hide hss
        have hS : ¬ 9223372036854775807 < b.size + s.size := by have := HR.out.sb; omega
        clear hss
        go_wp2_with (first | (go_at_call 15; (with_reducible refine (HH.out _).mono ?_); rintro e w5 ⟨rfl, ⟨nq, rfl⟩⟩; have H2 := hide (H1.out _ (pw_below_drewN (Below.refl _ _) nq))) | (go_at_call 16; (with_reducible refine H2.out.mono ?_); rintro e w6 ⟨rfl, h6⟩; have H3 := hide (h6.put 0 s 99 (by have := HR.out.sa; omega) (by have := size_app b s i HR.out.sb HX.out; omega) HX.out (by omega) (LT_void _ _ _ s)); clear h6) | (go_at_call 16; (with_reducible refine H3.out.mono ?_); rintro e w7 ⟨rfl, h7⟩; have H4 := hide h7; clear h7))
        go_roundw
        case rel => exact ⟨a, b ++ s, i + 1, rfl, rfl, rfl, by omega, by omega, ⟨⟨by rw [ed2]; exact H4.out, by have := HR.out.sa; omega, size_app b s i HR.out.sb HX.out, fun h => absurd (by omega) h⟩⟩⟩
        case measure => (try simp only [intOf]); omega
    · have hx : (i < n ∧ ¬ i < 10) ∨ ¬ i < n := by omega
      obtain ⟨ph, hph⟩ : ∃ ph, decide (k < i) = ph := ⟨_, rfl⟩
      have hka := HR.out.ka
      rw [hph] at hka
      have hb0 : ph = false → nil b = true := fun h => by
        have hbb : b = ⟨#[]⟩ := HR.out.e (by rw [h] at hph; exact of_decide_eq_false hph)
        rw [hbb]
        exact nil_nil
      have hp := hka.pure (okLT _ _ _) (by have := (LT_len ph a b).1; omega) (LT_sz ph a b)
      rw [LT_tree ph a b hb0] at hp
      have hwant := kids_want ph a b
      obtain ⟨ks, hks⟩ : ∃ ks, kidsT ph a b = ks := ⟨_, rfl⟩
      rw [hks] at hp hwant
      have HP := hide hp
      have HWA := hide hwant
      have HPH := hide hph
      have hsa := HR.out.sa
      have hsb := HR.out.sb
      clear hp hwant hka hks hrel hph
      rcases hx with ⟨x1, x2⟩ | x1
      · go_upto_region 24 with (go_at_call 17; (with_reducible refine HP.out.mono ?_); rintro e w8 ⟨v8, rfl, hT, h8⟩; obtain ⟨A3, c3, c5, ad5, A6, c6, rfl, hk5, l6, g6⟩ := hT.box; have HK := hide hk5; have HG := hide g6; have HL := hide l6; have H8 := hide h8; clear hT hk5 l6 g6 h8)
        obtain ⟨wB, hwB⟩ : ∃ wB, w8.alloc (.cells #[.int .i64 1, .int .i64 0, .string ⟨#[]⟩, .slice A3 0 c3, .string ⟨#[]⟩, .slice (some ad5) 1 c5] 35) = wB := ⟨_, rfl⟩
        have hX := heap_alloc_new w8 (.cells #[.int .i64 1, .int .i64 0, .string ⟨#[]⟩, .slice A3 0 c3, .string ⟨#[]⟩, .slice (some ad5) 1 c5] 35)
        have hB := below_alloc (Below.refl w8.heap.size w8) (.cells #[.int .i64 1, .int .i64 0, .string ⟨#[]⟩, .slice A3 0 c3, .string ⟨#[]⟩, .slice (some ad5) 1 c5] 35)
        rw [hwB] at hX hB ⊢
        have HK5 := hide (cellW HK.out hB)
        have HX5 : Hid (wB.cell? ⟨w8.heap.size, 5, none⟩ = some (.slice (some ad5) 1 c5)) := hide (cell_of_row _ _ 5 _ _ _ hX)
        have HGB := hide (Kd.C_below HG.out hB)
        have H8B := hide (H8.out.below hB)
        have HO0 := hide (Kd.R_nil Kd.string 9 wB wB.heap.size (fun _ => True))
        have HB0 := hide (Below.refl wB.heap.size wB)
        have hz0 := HB0.out.size
        clear hX hB hwB HG HK H8
        rcases ph with _ | _
        · have hph := of_decide_eq_false HPH.out
          have y1 : k < n := by omega
          have y2 : ¬ (k : Int) < 10 := by omega
          rcases za : nil a with _ | _
          · have za2 : a.toList.isEmpty = false := za
            have zb := hb0 rfl
            have zb2 : b.toList.isEmpty = true := zb
            go_upto_region 30 with (first | (at_builtin; refine Kd.R_append Kd.string (w0 := wB) wB.heap.size rfl (.tmp 96) (.tmp 98) 22 9 (.string ⟨#[]⟩) 16 rfl Try.underlying22 infozS rfl (by decide) (by decide) (.slice none 0 0) ([]) a [Value.string a] (fun _ => True) (fun _ => False) rfl rfl rfl (fun k hk => hk.elim) (fun _ _ => trivial) HO0.out (Below.refl _ _) hz0 (by simp) ?_; intro v11 w11 ho hb hg hown; have HO11 := hide ho; have HB11 := hide (HB0.out.trans hb); have hz11 := HB11.out.size; clear ho hb hg hown))
            have HV : Hid (Kd.string.R 9 w11 wB.heap.size (fun _ => True) v11 (ks.map (fun x => x.f4))) := hide (by rw [HWA.out]; unfold wantL; rw [show nil a = false from za, show nil b = true from zb]; exact HO11.out)
            obtain ⟨XS, hXS⟩ : ∃ XS, ks.map (fun x => x.f4) = XS := ⟨_, rfl⟩
            obtain ⟨m, hm⟩ : ∃ m, ks.length = m := ⟨_, rfl⟩
            have hXm : XS.length = m := by rw [← hXS, List.length_map, hm]
            have hm3 : m ≤ 3 := by rw [← hXm, ← hXS, HWA.out]; exact want_len _ _ _
            rw [hXS] at HV
            obtain ⟨A7, c7, rfl, l7, g7⟩ := Kd.R_reads HV.out
            rw [hXm]
            have hk5 := cellW HK5.out HB11.out
            have hx5 := cellW HX5.out HB11.out
            rw [hm] at hk5
            have HG7 := hide g7
            have HXS := hide hXS
            have HM := hide hm
            clear HV hXS g7 l7 hm
            go_wp2_with fail
            go_loopw [18] (fun iv wr => ∃ j : Nat, iv = .int .i64 (j : Int) ∧ j ≤ m ∧ Aside0 (Below w11.heap.size w11 wr)) (fun iv _ => m - (intOf iv).toNat)
            case atStart => exact ⟨0, rfl, Nat.zero_le _, ⟨Below.refl _ _⟩⟩
            case round =>
              obtain ⟨j, rfl, hj, hrel⟩ := hrel
              by_cases hlj : j < m
              · obtain ⟨ad6, A3q, c3q, A5q, c5q, rfl, q0, q1, q2, q3, q4, _, _, _, _, _⟩ := at_T35 (Kd.C_below (Kd.C_below HGB.out HB11.out) hrel.out) (j : Int) (by omega) (by rw [HM.out]; omega)
                obtain ⟨ad7, rfl, q7⟩ := cell_at HG7.out ⟨#[]⟩ j (by omega)
                have q7 := cellW q7 hrel.out
                have p5 := cellW hk5 hrel.out
                have o5 := cellW hx5 hrel.out
                rw [← HXS.out, want_at ks j (by rw [HM.out]; exact hlj)] at q7
                obtain ⟨z, hz⟩ : ∃ z, (rd_T35 ks (j : Int)).f4 = z := ⟨_, rfl⟩
                rw [hz] at q4 q7
                rw [Int.toNat_natCast] at q4
                have hlj1 : (j : Int) < (m : Int) := by omega
                have hlj0 : (0 : Int) ≤ (j : Int) := by omega
                clear q0 q1 q2 q3 hz hk5 hx5
                have HRL := hide hrel.out
                clear hrel
                go_wp2_with fail
                go_quiet (fail)
                go_wp2_with fail
                go_roundw
                case rel => exact ⟨j + 1, rfl, by omega, ⟨by first | exact HRL.out | exact pw_below_drewN HRL.out _⟩⟩
                case measure => (try simp only [intOf]); omega
              · have HRL := hide hrel.out
                clear hrel
                go_wp2_with (go_at_call 18; (with_reducible refine (known _).mono ?_); rintro e w20 ⟨rfl, hb⟩; have HE := hide hb; clear hb)
                go_ret
                exact ⟨rfl, below_step (below_step (below_step H8B.out.b HB11.out) HRL.out) HE.out⟩
          · have za2 : a.toList.isEmpty = true := za
            have zb := hb0 rfl
            have zb2 : b.toList.isEmpty = true := zb
            go_upto_region 30 with fail
            have HV : Hid (Kd.string.R 9 wB wB.heap.size (fun _ => True) (.slice none 0 0) (ks.map (fun x => x.f4))) := hide (by rw [HWA.out]; unfold wantL; rw [show nil a = true from za, show nil b = true from zb]; exact HO0.out)
            obtain ⟨XS, hXS⟩ : ∃ XS, ks.map (fun x => x.f4) = XS := ⟨_, rfl⟩
            obtain ⟨m, hm⟩ : ∃ m, ks.length = m := ⟨_, rfl⟩
            have hXm : XS.length = m := by rw [← hXS, List.length_map, hm]
            have hm3 : m ≤ 3 := by rw [← hXm, ← hXS, HWA.out]; exact want_len _ _ _
            rw [hXS] at HV
            obtain ⟨A7, c7, he7, l7, g7⟩ := Kd.R_reads HV.out
            injection he7 with h7a h70 h7c
            subst h7a
            subst h7c
            obtain rfl : m = 0 := by omega
            clear h70 hXm hm3
            have hk5 := cellW HK5.out HB0.out
            have hx5 := cellW HX5.out HB0.out
            rw [hm] at hk5
            have HG7 := hide g7
            have HXS := hide hXS
            have HM := hide hm
            clear HV hXS g7 l7 hm
            go_wp2_with fail
            go_loopw [18] (fun iv wr => ∃ j : Nat, iv = .int .i64 (j : Int) ∧ j ≤ 0 ∧ Aside0 (Below wB.heap.size wB wr)) (fun iv _ => 0 - (intOf iv).toNat)
            case atStart => exact ⟨0, rfl, Nat.zero_le _, ⟨Below.refl _ _⟩⟩
            case round =>
              obtain ⟨j, rfl, hj, hrel⟩ := hrel
              by_cases hlj : j < 0
              · omega
              · have HRL := hide hrel.out
                clear hrel
                go_wp2_with (go_at_call 18; (with_reducible refine (known _).mono ?_); rintro e w20 ⟨rfl, hb⟩; have HE := hide hb; clear hb)
                go_ret
                exact ⟨rfl, below_step (below_step (below_step H8B.out.b HB0.out) HRL.out) HE.out⟩
        · have hph := of_decide_eq_true HPH.out
          have y1 : k < n := by omega
          have y2 : (k : Int) < 10 := by omega
          rcases za : nil a with _ | _
          · have za2 : a.toList.isEmpty = false := za
            rcases zb : nil b with _ | _
            · have zb2 : b.toList.isEmpty = false := zb
              go_upto_region 30 with (first | (at_builtin; refine Kd.R_append Kd.string (w0 := wB) wB.heap.size rfl (.tmp 96) (.tmp 98) 22 9 (.string ⟨#[]⟩) 16 rfl Try.underlying22 infozS rfl (by decide) (by decide) (.slice none 0 0) ([]) a [Value.string a] (fun _ => True) (fun _ => False) rfl rfl rfl (fun k hk => hk.elim) (fun _ _ => trivial) HO0.out (Below.refl _ _) hz0 (by simp) ?_; intro v11 w11 ho hb hg hown; have HO11 := hide ho; have HB11 := hide (HB0.out.trans hb); have hz11 := HB11.out.size; clear ho hb hg hown) | (at_builtin; refine Kd.R_append Kd.string (w0 := w11) wB.heap.size rfl (.tmp 108) (.tmp 109) 22 9 (.string ⟨#[]⟩) 16 rfl Try.underlying22 infozS rfl (by decide) (by decide) v11 ([] ++ [a]) ⟨#[99]⟩ [Value.string ⟨#[99]⟩] (fun _ => True) (fun _ => False) rfl rfl rfl (fun k hk => hk.elim) (fun _ _ => trivial) HO11.out (Below.refl _ _) hz11 (by simp) ?_; intro v12 w12 ho hb hg hown; have HO12 := hide ho; have HB12 := hide (HB11.out.trans hb); have hz12 := HB12.out.size; clear ho hb hg hown) | (at_builtin; refine Kd.R_append Kd.string (w0 := w12) wB.heap.size rfl (.tmp 113) (.tmp 115) 22 9 (.string ⟨#[]⟩) 16 rfl Try.underlying22 infozS rfl (by decide) (by decide) v12 ([] ++ [a] ++ [⟨#[99]⟩]) b [Value.string b] (fun _ => True) (fun _ => False) rfl rfl rfl (fun k hk => hk.elim) (fun _ _ => trivial) HO12.out (Below.refl _ _) hz12 (by simp) ?_; intro v13 w13 ho hb hg hown; have HO13 := hide ho; have HB13 := hide (HB12.out.trans hb); have hz13 := HB13.out.size; clear ho hb hg hown))
              have HV : Hid (Kd.string.R 9 w13 wB.heap.size (fun _ => True) v13 (ks.map (fun x => x.f4))) := hide (by rw [HWA.out]; unfold wantL; rw [show nil a = false from za, show nil b = false from zb]; exact HO13.out)
              obtain ⟨XS, hXS⟩ : ∃ XS, ks.map (fun x => x.f4) = XS := ⟨_, rfl⟩
              obtain ⟨m, hm⟩ : ∃ m, ks.length = m := ⟨_, rfl⟩
              have hXm : XS.length = m := by rw [← hXS, List.length_map, hm]
              have hm3 : m ≤ 3 := by rw [← hXm, ← hXS, HWA.out]; exact want_len _ _ _
              rw [hXS] at HV
              obtain ⟨A7, c7, rfl, l7, g7⟩ := Kd.R_reads HV.out
              rw [hXm]
              have hk5 := cellW HK5.out HB13.out
              have hx5 := cellW HX5.out HB13.out
              rw [hm] at hk5
              have HG7 := hide g7
              have HXS := hide hXS
              have HM := hide hm
              clear HV hXS g7 l7 hm
              go_wp2_with fail
              go_loopw [18] (fun iv wr => ∃ j : Nat, iv = .int .i64 (j : Int) ∧ j ≤ m ∧ Aside0 (Below w13.heap.size w13 wr)) (fun iv _ => m - (intOf iv).toNat)
              case atStart => exact ⟨0, rfl, Nat.zero_le _, ⟨Below.refl _ _⟩⟩
              case round =>
                obtain ⟨j, rfl, hj, hrel⟩ := hrel
                by_cases hlj : j < m
                · obtain ⟨ad6, A3q, c3q, A5q, c5q, rfl, q0, q1, q2, q3, q4, _, _, _, _, _⟩ := at_T35 (Kd.C_below (Kd.C_below HGB.out HB13.out) hrel.out) (j : Int) (by omega) (by rw [HM.out]; omega)
                  obtain ⟨ad7, rfl, q7⟩ := cell_at HG7.out ⟨#[]⟩ j (by omega)
                  have q7 := cellW q7 hrel.out
                  have p5 := cellW hk5 hrel.out
                  have o5 := cellW hx5 hrel.out
                  rw [← HXS.out, want_at ks j (by rw [HM.out]; exact hlj)] at q7
                  obtain ⟨z, hz⟩ : ∃ z, (rd_T35 ks (j : Int)).f4 = z := ⟨_, rfl⟩
                  rw [hz] at q4 q7
                  rw [Int.toNat_natCast] at q4
                  have hlj1 : (j : Int) < (m : Int) := by omega
                  have hlj0 : (0 : Int) ≤ (j : Int) := by omega
                  clear q0 q1 q2 q3 hz hk5 hx5
                  have HRL := hide hrel.out
                  clear hrel
                  go_wp2_with fail
                  go_quiet (fail)
                  go_wp2_with fail
                  go_roundw
                  case rel => exact ⟨j + 1, rfl, by omega, ⟨by first | exact HRL.out | exact pw_below_drewN HRL.out _⟩⟩
                  case measure => (try simp only [intOf]); omega
                · have HRL := hide hrel.out
                  clear hrel
                  go_wp2_with (go_at_call 18; (with_reducible refine (known _).mono ?_); rintro e w20 ⟨rfl, hb⟩; have HE := hide hb; clear hb)
                  go_ret
                  exact ⟨rfl, below_step (below_step (below_step H8B.out.b HB13.out) HRL.out) HE.out⟩
            · have zb2 : b.toList.isEmpty = true := zb
              go_upto_region 30 with (first | (at_builtin; refine Kd.R_append Kd.string (w0 := wB) wB.heap.size rfl (.tmp 96) (.tmp 98) 22 9 (.string ⟨#[]⟩) 16 rfl Try.underlying22 infozS rfl (by decide) (by decide) (.slice none 0 0) ([]) a [Value.string a] (fun _ => True) (fun _ => False) rfl rfl rfl (fun k hk => hk.elim) (fun _ _ => trivial) HO0.out (Below.refl _ _) hz0 (by simp) ?_; intro v11 w11 ho hb hg hown; have HO11 := hide ho; have HB11 := hide (HB0.out.trans hb); have hz11 := HB11.out.size; clear ho hb hg hown) | (at_builtin; refine Kd.R_append Kd.string (w0 := w11) wB.heap.size rfl (.tmp 108) (.tmp 109) 22 9 (.string ⟨#[]⟩) 16 rfl Try.underlying22 infozS rfl (by decide) (by decide) v11 ([] ++ [a]) ⟨#[99]⟩ [Value.string ⟨#[99]⟩] (fun _ => True) (fun _ => False) rfl rfl rfl (fun k hk => hk.elim) (fun _ _ => trivial) HO11.out (Below.refl _ _) hz11 (by simp) ?_; intro v12 w12 ho hb hg hown; have HO12 := hide ho; have HB12 := hide (HB11.out.trans hb); have hz12 := HB12.out.size; clear ho hb hg hown))
              have HV : Hid (Kd.string.R 9 w12 wB.heap.size (fun _ => True) v12 (ks.map (fun x => x.f4))) := hide (by rw [HWA.out]; unfold wantL; rw [show nil a = false from za, show nil b = true from zb]; exact HO12.out)
              obtain ⟨XS, hXS⟩ : ∃ XS, ks.map (fun x => x.f4) = XS := ⟨_, rfl⟩
              obtain ⟨m, hm⟩ : ∃ m, ks.length = m := ⟨_, rfl⟩
              have hXm : XS.length = m := by rw [← hXS, List.length_map, hm]
              have hm3 : m ≤ 3 := by rw [← hXm, ← hXS, HWA.out]; exact want_len _ _ _
              rw [hXS] at HV
              obtain ⟨A7, c7, rfl, l7, g7⟩ := Kd.R_reads HV.out
              rw [hXm]
              have hk5 := cellW HK5.out HB12.out
              have hx5 := cellW HX5.out HB12.out
              rw [hm] at hk5
              have HG7 := hide g7
              have HXS := hide hXS
              have HM := hide hm
              clear HV hXS g7 l7 hm
              go_wp2_with fail
              go_loopw [18] (fun iv wr => ∃ j : Nat, iv = .int .i64 (j : Int) ∧ j ≤ m ∧ Aside0 (Below w12.heap.size w12 wr)) (fun iv _ => m - (intOf iv).toNat)
              case atStart => exact ⟨0, rfl, Nat.zero_le _, ⟨Below.refl _ _⟩⟩
              case round =>
                obtain ⟨j, rfl, hj, hrel⟩ := hrel
                by_cases hlj : j < m
                · obtain ⟨ad6, A3q, c3q, A5q, c5q, rfl, q0, q1, q2, q3, q4, _, _, _, _, _⟩ := at_T35 (Kd.C_below (Kd.C_below HGB.out HB12.out) hrel.out) (j : Int) (by omega) (by rw [HM.out]; omega)
                  obtain ⟨ad7, rfl, q7⟩ := cell_at HG7.out ⟨#[]⟩ j (by omega)
                  have q7 := cellW q7 hrel.out
                  have p5 := cellW hk5 hrel.out
                  have o5 := cellW hx5 hrel.out
                  rw [← HXS.out, want_at ks j (by rw [HM.out]; exact hlj)] at q7
                  obtain ⟨z, hz⟩ : ∃ z, (rd_T35 ks (j : Int)).f4 = z := ⟨_, rfl⟩
                  rw [hz] at q4 q7
                  rw [Int.toNat_natCast] at q4
                  have hlj1 : (j : Int) < (m : Int) := by omega
                  have hlj0 : (0 : Int) ≤ (j : Int) := by omega
                  clear q0 q1 q2 q3 hz hk5 hx5
                  have HRL := hide hrel.out
                  clear hrel
                  go_wp2_with fail
                  go_quiet (fail)
                  go_wp2_with fail
                  go_roundw
                  case rel => exact ⟨j + 1, rfl, by omega, ⟨by first | exact HRL.out | exact pw_below_drewN HRL.out _⟩⟩
                  case measure => (try simp only [intOf]); omega
                · have HRL := hide hrel.out
                  clear hrel
                  go_wp2_with (go_at_call 18; (with_reducible refine (known _).mono ?_); rintro e w20 ⟨rfl, hb⟩; have HE := hide hb; clear hb)
                  go_ret
                  exact ⟨rfl, below_step (below_step (below_step H8B.out.b HB12.out) HRL.out) HE.out⟩
          · have za2 : a.toList.isEmpty = true := za
            rcases zb : nil b with _ | _
            · have zb2 : b.toList.isEmpty = false := zb
              go_upto_region 30 with (first | (at_builtin; refine Kd.R_append Kd.string (w0 := wB) wB.heap.size rfl (.tmp 108) (.tmp 109) 22 9 (.string ⟨#[]⟩) 16 rfl Try.underlying22 infozS rfl (by decide) (by decide) (.slice none 0 0) ([]) ⟨#[99]⟩ [Value.string ⟨#[99]⟩] (fun _ => True) (fun _ => False) rfl rfl rfl (fun k hk => hk.elim) (fun _ _ => trivial) HO0.out (Below.refl _ _) hz0 (by simp) ?_; intro v12 w12 ho hb hg hown; have HO12 := hide ho; have HB12 := hide (HB0.out.trans hb); have hz12 := HB12.out.size; clear ho hb hg hown) | (at_builtin; refine Kd.R_append Kd.string (w0 := w12) wB.heap.size rfl (.tmp 113) (.tmp 115) 22 9 (.string ⟨#[]⟩) 16 rfl Try.underlying22 infozS rfl (by decide) (by decide) v12 ([] ++ [⟨#[99]⟩]) b [Value.string b] (fun _ => True) (fun _ => False) rfl rfl rfl (fun k hk => hk.elim) (fun _ _ => trivial) HO12.out (Below.refl _ _) hz12 (by simp) ?_; intro v13 w13 ho hb hg hown; have HO13 := hide ho; have HB13 := hide (HB12.out.trans hb); have hz13 := HB13.out.size; clear ho hb hg hown))
              have HV : Hid (Kd.string.R 9 w13 wB.heap.size (fun _ => True) v13 (ks.map (fun x => x.f4))) := hide (by rw [HWA.out]; unfold wantL; rw [show nil a = true from za, show nil b = false from zb]; exact HO13.out)
              obtain ⟨XS, hXS⟩ : ∃ XS, ks.map (fun x => x.f4) = XS := ⟨_, rfl⟩
              obtain ⟨m, hm⟩ : ∃ m, ks.length = m := ⟨_, rfl⟩
              have hXm : XS.length = m := by rw [← hXS, List.length_map, hm]
              have hm3 : m ≤ 3 := by rw [← hXm, ← hXS, HWA.out]; exact want_len _ _ _
              rw [hXS] at HV
              obtain ⟨A7, c7, rfl, l7, g7⟩ := Kd.R_reads HV.out
              rw [hXm]
              have hk5 := cellW HK5.out HB13.out
              have hx5 := cellW HX5.out HB13.out
              rw [hm] at hk5
              have HG7 := hide g7
              have HXS := hide hXS
              have HM := hide hm
              clear HV hXS g7 l7 hm
              go_wp2_with fail
              go_loopw [18] (fun iv wr => ∃ j : Nat, iv = .int .i64 (j : Int) ∧ j ≤ m ∧ Aside0 (Below w13.heap.size w13 wr)) (fun iv _ => m - (intOf iv).toNat)
              case atStart => exact ⟨0, rfl, Nat.zero_le _, ⟨Below.refl _ _⟩⟩
              case round =>
                obtain ⟨j, rfl, hj, hrel⟩ := hrel
                by_cases hlj : j < m
                · obtain ⟨ad6, A3q, c3q, A5q, c5q, rfl, q0, q1, q2, q3, q4, _, _, _, _, _⟩ := at_T35 (Kd.C_below (Kd.C_below HGB.out HB13.out) hrel.out) (j : Int) (by omega) (by rw [HM.out]; omega)
                  obtain ⟨ad7, rfl, q7⟩ := cell_at HG7.out ⟨#[]⟩ j (by omega)
                  have q7 := cellW q7 hrel.out
                  have p5 := cellW hk5 hrel.out
                  have o5 := cellW hx5 hrel.out
                  rw [← HXS.out, want_at ks j (by rw [HM.out]; exact hlj)] at q7
                  obtain ⟨z, hz⟩ : ∃ z, (rd_T35 ks (j : Int)).f4 = z := ⟨_, rfl⟩
                  rw [hz] at q4 q7
                  rw [Int.toNat_natCast] at q4
                  have hlj1 : (j : Int) < (m : Int) := by omega
                  have hlj0 : (0 : Int) ≤ (j : Int) := by omega
                  clear q0 q1 q2 q3 hz hk5 hx5
                  have HRL := hide hrel.out
                  clear hrel
                  go_wp2_with fail
                  go_quiet (fail)
                  go_wp2_with fail
                  go_roundw
                  case rel => exact ⟨j + 1, rfl, by omega, ⟨by first | exact HRL.out | exact pw_below_drewN HRL.out _⟩⟩
                  case measure => (try simp only [intOf]); omega
                · have HRL := hide hrel.out
                  clear hrel
                  go_wp2_with (go_at_call 18; (with_reducible refine (known _).mono ?_); rintro e w20 ⟨rfl, hb⟩; have HE := hide hb; clear hb)
                  go_ret
                  exact ⟨rfl, below_step (below_step (below_step H8B.out.b HB13.out) HRL.out) HE.out⟩
            · have zb2 : b.toList.isEmpty = true := zb
              go_upto_region 30 with (first | (at_builtin; refine Kd.R_append Kd.string (w0 := wB) wB.heap.size rfl (.tmp 108) (.tmp 109) 22 9 (.string ⟨#[]⟩) 16 rfl Try.underlying22 infozS rfl (by decide) (by decide) (.slice none 0 0) ([]) ⟨#[99]⟩ [Value.string ⟨#[99]⟩] (fun _ => True) (fun _ => False) rfl rfl rfl (fun k hk => hk.elim) (fun _ _ => trivial) HO0.out (Below.refl _ _) hz0 (by simp) ?_; intro v12 w12 ho hb hg hown; have HO12 := hide ho; have HB12 := hide (HB0.out.trans hb); have hz12 := HB12.out.size; clear ho hb hg hown))
              have HV : Hid (Kd.string.R 9 w12 wB.heap.size (fun _ => True) v12 (ks.map (fun x => x.f4))) := hide (by rw [HWA.out]; unfold wantL; rw [show nil a = true from za, show nil b = true from zb]; exact HO12.out)
              obtain ⟨XS, hXS⟩ : ∃ XS, ks.map (fun x => x.f4) = XS := ⟨_, rfl⟩
              obtain ⟨m, hm⟩ : ∃ m, ks.length = m := ⟨_, rfl⟩
              have hXm : XS.length = m := by rw [← hXS, List.length_map, hm]
              have hm3 : m ≤ 3 := by rw [← hXm, ← hXS, HWA.out]; exact want_len _ _ _
              rw [hXS] at HV
              obtain ⟨A7, c7, rfl, l7, g7⟩ := Kd.R_reads HV.out
              rw [hXm]
              have hk5 := cellW HK5.out HB12.out
              have hx5 := cellW HX5.out HB12.out
              rw [hm] at hk5
              have HG7 := hide g7
              have HXS := hide hXS
              have HM := hide hm
              clear HV hXS g7 l7 hm
              go_wp2_with fail
              go_loopw [18] (fun iv wr => ∃ j : Nat, iv = .int .i64 (j : Int) ∧ j ≤ m ∧ Aside0 (Below w12.heap.size w12 wr)) (fun iv _ => m - (intOf iv).toNat)
              case atStart => exact ⟨0, rfl, Nat.zero_le _, ⟨Below.refl _ _⟩⟩
              case round =>
                obtain ⟨j, rfl, hj, hrel⟩ := hrel
                by_cases hlj : j < m
                · obtain ⟨ad6, A3q, c3q, A5q, c5q, rfl, q0, q1, q2, q3, q4, _, _, _, _, _⟩ := at_T35 (Kd.C_below (Kd.C_below HGB.out HB12.out) hrel.out) (j : Int) (by omega) (by rw [HM.out]; omega)
                  obtain ⟨ad7, rfl, q7⟩ := cell_at HG7.out ⟨#[]⟩ j (by omega)
                  have q7 := cellW q7 hrel.out
                  have p5 := cellW hk5 hrel.out
                  have o5 := cellW hx5 hrel.out
                  rw [← HXS.out, want_at ks j (by rw [HM.out]; exact hlj)] at q7
                  obtain ⟨z, hz⟩ : ∃ z, (rd_T35 ks (j : Int)).f4 = z := ⟨_, rfl⟩
                  rw [hz] at q4 q7
                  rw [Int.toNat_natCast] at q4
                  have hlj1 : (j : Int) < (m : Int) := by omega
                  have hlj0 : (0 : Int) ≤ (j : Int) := by omega
                  clear q0 q1 q2 q3 hz hk5 hx5
                  have HRL := hide hrel.out
                  clear hrel
                  go_wp2_with fail
                  go_quiet (fail)
                  go_wp2_with fail
                  go_roundw
                  case rel => exact ⟨j + 1, rfl, by omega, ⟨by first | exact HRL.out | exact pw_below_drewN HRL.out _⟩⟩
                  case measure => (try simp only [intOf]); omega
                · have HRL := hide hrel.out
                  clear hrel
                  go_wp2_with (go_at_call 18; (with_reducible refine (known _).mono ?_); rintro e w20 ⟨rfl, hb⟩; have HE := hide hb; clear hb)
                  go_ret
                  exact ⟨rfl, below_step (below_step (below_step H8B.out.b HB12.out) HRL.out) HE.out⟩
      · go_upto_region 24 with (go_at_call 17; (with_reducible refine HP.out.mono ?_); rintro e w8 ⟨v8, rfl, hT, h8⟩; obtain ⟨A3, c3, c5, ad5, A6, c6, rfl, hk5, l6, g6⟩ := hT.box; have HK := hide hk5; have HG := hide g6; have HL := hide l6; have H8 := hide h8; clear hT hk5 l6 g6 h8)
        obtain ⟨wB, hwB⟩ : ∃ wB, w8.alloc (.cells #[.int .i64 1, .int .i64 0, .string ⟨#[]⟩, .slice A3 0 c3, .string ⟨#[]⟩, .slice (some ad5) 1 c5] 35) = wB := ⟨_, rfl⟩
        have hX := heap_alloc_new w8 (.cells #[.int .i64 1, .int .i64 0, .string ⟨#[]⟩, .slice A3 0 c3, .string ⟨#[]⟩, .slice (some ad5) 1 c5] 35)
        have hB := below_alloc (Below.refl w8.heap.size w8) (.cells #[.int .i64 1, .int .i64 0, .string ⟨#[]⟩, .slice A3 0 c3, .string ⟨#[]⟩, .slice (some ad5) 1 c5] 35)
        rw [hwB] at hX hB ⊢
        have HK5 := hide (cellW HK.out hB)
        have HX5 : Hid (wB.cell? ⟨w8.heap.size, 5, none⟩ = some (.slice (some ad5) 1 c5)) := hide (cell_of_row _ _ 5 _ _ _ hX)
        have HGB := hide (Kd.C_below HG.out hB)
        have H8B := hide (H8.out.below hB)
        have HO0 := hide (Kd.R_nil Kd.string 9 wB wB.heap.size (fun _ => True))
        have HB0 := hide (Below.refl wB.heap.size wB)
        have hz0 := HB0.out.size
        clear hX hB hwB HG HK H8
        rcases ph with _ | _
        · have hph := of_decide_eq_false HPH.out
          have y1 : ¬ k < n := by omega
          rcases za : nil a with _ | _
          · have za2 : a.toList.isEmpty = false := za
            have zb := hb0 rfl
            have zb2 : b.toList.isEmpty = true := zb
            go_upto_region 30 with (first | (at_builtin; refine Kd.R_append Kd.string (w0 := wB) wB.heap.size rfl (.tmp 96) (.tmp 98) 22 9 (.string ⟨#[]⟩) 16 rfl Try.underlying22 infozS rfl (by decide) (by decide) (.slice none 0 0) ([]) a [Value.string a] (fun _ => True) (fun _ => False) rfl rfl rfl (fun k hk => hk.elim) (fun _ _ => trivial) HO0.out (Below.refl _ _) hz0 (by simp) ?_; intro v11 w11 ho hb hg hown; have HO11 := hide ho; have HB11 := hide (HB0.out.trans hb); have hz11 := HB11.out.size; clear ho hb hg hown))
            have HV : Hid (Kd.string.R 9 w11 wB.heap.size (fun _ => True) v11 (ks.map (fun x => x.f4))) := hide (by rw [HWA.out]; unfold wantL; rw [show nil a = false from za, show nil b = true from zb]; exact HO11.out)
            obtain ⟨XS, hXS⟩ : ∃ XS, ks.map (fun x => x.f4) = XS := ⟨_, rfl⟩
            obtain ⟨m, hm⟩ : ∃ m, ks.length = m := ⟨_, rfl⟩
            have hXm : XS.length = m := by rw [← hXS, List.length_map, hm]
            have hm3 : m ≤ 3 := by rw [← hXm, ← hXS, HWA.out]; exact want_len _ _ _
            rw [hXS] at HV
            obtain ⟨A7, c7, rfl, l7, g7⟩ := Kd.R_reads HV.out
            rw [hXm]
            have hk5 := cellW HK5.out HB11.out
            have hx5 := cellW HX5.out HB11.out
            rw [hm] at hk5
            have HG7 := hide g7
            have HXS := hide hXS
            have HM := hide hm
            clear HV hXS g7 l7 hm
            go_wp2_with fail
            go_loopw [18] (fun iv wr => ∃ j : Nat, iv = .int .i64 (j : Int) ∧ j ≤ m ∧ Aside0 (Below w11.heap.size w11 wr)) (fun iv _ => m - (intOf iv).toNat)
            case atStart => exact ⟨0, rfl, Nat.zero_le _, ⟨Below.refl _ _⟩⟩
            case round =>
              obtain ⟨j, rfl, hj, hrel⟩ := hrel
              by_cases hlj : j < m
              · obtain ⟨ad6, A3q, c3q, A5q, c5q, rfl, q0, q1, q2, q3, q4, _, _, _, _, _⟩ := at_T35 (Kd.C_below (Kd.C_below HGB.out HB11.out) hrel.out) (j : Int) (by omega) (by rw [HM.out]; omega)
                obtain ⟨ad7, rfl, q7⟩ := cell_at HG7.out ⟨#[]⟩ j (by omega)
                have q7 := cellW q7 hrel.out
                have p5 := cellW hk5 hrel.out
                have o5 := cellW hx5 hrel.out
                rw [← HXS.out, want_at ks j (by rw [HM.out]; exact hlj)] at q7
                obtain ⟨z, hz⟩ : ∃ z, (rd_T35 ks (j : Int)).f4 = z := ⟨_, rfl⟩
                rw [hz] at q4 q7
                rw [Int.toNat_natCast] at q4
                have hlj1 : (j : Int) < (m : Int) := by omega
                have hlj0 : (0 : Int) ≤ (j : Int) := by omega
                clear q0 q1 q2 q3 hz hk5 hx5
                have HRL := hide hrel.out
                clear hrel
                go_wp2_with fail
                go_quiet (fail)
                go_wp2_with fail
                go_roundw
                case rel => exact ⟨j + 1, rfl, by omega, ⟨by first | exact HRL.out | exact pw_below_drewN HRL.out _⟩⟩
                case measure => (try simp only [intOf]); omega
              · have HRL := hide hrel.out
                clear hrel
                go_wp2_with (go_at_call 18; (with_reducible refine (known _).mono ?_); rintro e w20 ⟨rfl, hb⟩; have HE := hide hb; clear hb)
                go_ret
                exact ⟨rfl, below_step (below_step (below_step H8B.out.b HB11.out) HRL.out) HE.out⟩
          · have za2 : a.toList.isEmpty = true := za
            have zb := hb0 rfl
            have zb2 : b.toList.isEmpty = true := zb
            go_upto_region 30 with fail
            have HV : Hid (Kd.string.R 9 wB wB.heap.size (fun _ => True) (.slice none 0 0) (ks.map (fun x => x.f4))) := hide (by rw [HWA.out]; unfold wantL; rw [show nil a = true from za, show nil b = true from zb]; exact HO0.out)
            obtain ⟨XS, hXS⟩ : ∃ XS, ks.map (fun x => x.f4) = XS := ⟨_, rfl⟩
            obtain ⟨m, hm⟩ : ∃ m, ks.length = m := ⟨_, rfl⟩
            have hXm : XS.length = m := by rw [← hXS, List.length_map, hm]
            have hm3 : m ≤ 3 := by rw [← hXm, ← hXS, HWA.out]; exact want_len _ _ _
            rw [hXS] at HV
            obtain ⟨A7, c7, he7, l7, g7⟩ := Kd.R_reads HV.out
            injection he7 with h7a h70 h7c
            subst h7a
            subst h7c
            obtain rfl : m = 0 := by omega
            clear h70 hXm hm3
            have hk5 := cellW HK5.out HB0.out
            have hx5 := cellW HX5.out HB0.out
            rw [hm] at hk5
            have HG7 := hide g7
            have HXS := hide hXS
            have HM := hide hm
            clear HV hXS g7 l7 hm
            go_wp2_with fail
            go_loopw [18] (fun iv wr => ∃ j : Nat, iv = .int .i64 (j : Int) ∧ j ≤ 0 ∧ Aside0 (Below wB.heap.size wB wr)) (fun iv _ => 0 - (intOf iv).toNat)
            case atStart => exact ⟨0, rfl, Nat.zero_le _, ⟨Below.refl _ _⟩⟩
            case round =>
              obtain ⟨j, rfl, hj, hrel⟩ := hrel
              by_cases hlj : j < 0
              · omega
              · have HRL := hide hrel.out
                clear hrel
                go_wp2_with (go_at_call 18; (with_reducible refine (known _).mono ?_); rintro e w20 ⟨rfl, hb⟩; have HE := hide hb; clear hb)
                go_ret
                exact ⟨rfl, below_step (below_step (below_step H8B.out.b HB0.out) HRL.out) HE.out⟩
        · have hph := of_decide_eq_true HPH.out
          have y1 : k < n := by omega
          have y2 : (k : Int) < 10 := by omega
          rcases za : nil a with _ | _
          · have za2 : a.toList.isEmpty = false := za
            rcases zb : nil b with _ | _
            · have zb2 : b.toList.isEmpty = false := zb
              go_upto_region 30 with (first | (at_builtin; refine Kd.R_append Kd.string (w0 := wB) wB.heap.size rfl (.tmp 96) (.tmp 98) 22 9 (.string ⟨#[]⟩) 16 rfl Try.underlying22 infozS rfl (by decide) (by decide) (.slice none 0 0) ([]) a [Value.string a] (fun _ => True) (fun _ => False) rfl rfl rfl (fun k hk => hk.elim) (fun _ _ => trivial) HO0.out (Below.refl _ _) hz0 (by simp) ?_; intro v11 w11 ho hb hg hown; have HO11 := hide ho; have HB11 := hide (HB0.out.trans hb); have hz11 := HB11.out.size; clear ho hb hg hown) | (at_builtin; refine Kd.R_append Kd.string (w0 := w11) wB.heap.size rfl (.tmp 108) (.tmp 109) 22 9 (.string ⟨#[]⟩) 16 rfl Try.underlying22 infozS rfl (by decide) (by decide) v11 ([] ++ [a]) ⟨#[99]⟩ [Value.string ⟨#[99]⟩] (fun _ => True) (fun _ => False) rfl rfl rfl (fun k hk => hk.elim) (fun _ _ => trivial) HO11.out (Below.refl _ _) hz11 (by simp) ?_; intro v12 w12 ho hb hg hown; have HO12 := hide ho; have HB12 := hide (HB11.out.trans hb); have hz12 := HB12.out.size; clear ho hb hg hown) | (at_builtin; refine Kd.R_append Kd.string (w0 := w12) wB.heap.size rfl (.tmp 113) (.tmp 115) 22 9 (.string ⟨#[]⟩) 16 rfl Try.underlying22 infozS rfl (by decide) (by decide) v12 ([] ++ [a] ++ [⟨#[99]⟩]) b [Value.string b] (fun _ => True) (fun _ => False) rfl rfl rfl (fun k hk => hk.elim) (fun _ _ => trivial) HO12.out (Below.refl _ _) hz12 (by simp) ?_; intro v13 w13 ho hb hg hown; have HO13 := hide ho; have HB13 := hide (HB12.out.trans hb); have hz13 := HB13.out.size; clear ho hb hg hown))
              have HV : Hid (Kd.string.R 9 w13 wB.heap.size (fun _ => True) v13 (ks.map (fun x => x.f4))) := hide (by rw [HWA.out]; unfold wantL; rw [show nil a = false from za, show nil b = false from zb]; exact HO13.out)
              obtain ⟨XS, hXS⟩ : ∃ XS, ks.map (fun x => x.f4) = XS := ⟨_, rfl⟩
              obtain ⟨m, hm⟩ : ∃ m, ks.length = m := ⟨_, rfl⟩
              have hXm : XS.length = m := by rw [← hXS, List.length_map, hm]
              have hm3 : m ≤ 3 := by rw [← hXm, ← hXS, HWA.out]; exact want_len _ _ _
              rw [hXS] at HV
              obtain ⟨A7, c7, rfl, l7, g7⟩ := Kd.R_reads HV.out
              rw [hXm]
              have hk5 := cellW HK5.out HB13.out
              have hx5 := cellW HX5.out HB13.out
              rw [hm] at hk5
              have HG7 := hide g7
              have HXS := hide hXS
              have HM := hide hm
              clear HV hXS g7 l7 hm
              go_wp2_with fail
              go_loopw [18] (fun iv wr => ∃ j : Nat, iv = .int .i64 (j : Int) ∧ j ≤ m ∧ Aside0 (Below w13.heap.size w13 wr)) (fun iv _ => m - (intOf iv).toNat)
              case atStart => exact ⟨0, rfl, Nat.zero_le _, ⟨Below.refl _ _⟩⟩
              case round =>
                obtain ⟨j, rfl, hj, hrel⟩ := hrel
                by_cases hlj : j < m
                · obtain ⟨ad6, A3q, c3q, A5q, c5q, rfl, q0, q1, q2, q3, q4, _, _, _, _, _⟩ := at_T35 (Kd.C_below (Kd.C_below HGB.out HB13.out) hrel.out) (j : Int) (by omega) (by rw [HM.out]; omega)
                  obtain ⟨ad7, rfl, q7⟩ := cell_at HG7.out ⟨#[]⟩ j (by omega)
                  have q7 := cellW q7 hrel.out
                  have p5 := cellW hk5 hrel.out
                  have o5 := cellW hx5 hrel.out
                  rw [← HXS.out, want_at ks j (by rw [HM.out]; exact hlj)] at q7
                  obtain ⟨z, hz⟩ : ∃ z, (rd_T35 ks (j : Int)).f4 = z := ⟨_, rfl⟩
                  rw [hz] at q4 q7
                  rw [Int.toNat_natCast] at q4
                  have hlj1 : (j : Int) < (m : Int) := by omega
                  have hlj0 : (0 : Int) ≤ (j : Int) := by omega
                  clear q0 q1 q2 q3 hz hk5 hx5
                  have HRL := hide hrel.out
                  clear hrel
                  go_wp2_with fail
                  go_quiet (fail)
                  go_wp2_with fail
                  go_roundw
                  case rel => exact ⟨j + 1, rfl, by omega, ⟨by first | exact HRL.out | exact pw_below_drewN HRL.out _⟩⟩
                  case measure => (try simp only [intOf]); omega
                · have HRL := hide hrel.out
                  clear hrel
                  go_wp2_with (go_at_call 18; (with_reducible refine (known _).mono ?_); rintro e w20 ⟨rfl, hb⟩; have HE := hide hb; clear hb)
                  go_ret
                  exact ⟨rfl, below_step (below_step (below_step H8B.out.b HB13.out) HRL.out) HE.out⟩
            · have zb2 : b.toList.isEmpty = true := zb
              go_upto_region 30 with (first | (at_builtin; refine Kd.R_append Kd.string (w0 := wB) wB.heap.size rfl (.tmp 96) (.tmp 98) 22 9 (.string ⟨#[]⟩) 16 rfl Try.underlying22 infozS rfl (by decide) (by decide) (.slice none 0 0) ([]) a [Value.string a] (fun _ => True) (fun _ => False) rfl rfl rfl (fun k hk => hk.elim) (fun _ _ => trivial) HO0.out (Below.refl _ _) hz0 (by simp) ?_; intro v11 w11 ho hb hg hown; have HO11 := hide ho; have HB11 := hide (HB0.out.trans hb); have hz11 := HB11.out.size; clear ho hb hg hown) | (at_builtin; refine Kd.R_append Kd.string (w0 := w11) wB.heap.size rfl (.tmp 108) (.tmp 109) 22 9 (.string ⟨#[]⟩) 16 rfl Try.underlying22 infozS rfl (by decide) (by decide) v11 ([] ++ [a]) ⟨#[99]⟩ [Value.string ⟨#[99]⟩] (fun _ => True) (fun _ => False) rfl rfl rfl (fun k hk => hk.elim) (fun _ _ => trivial) HO11.out (Below.refl _ _) hz11 (by simp) ?_; intro v12 w12 ho hb hg hown; have HO12 := hide ho; have HB12 := hide (HB11.out.trans hb); have hz12 := HB12.out.size; clear ho hb hg hown))
              have HV : Hid (Kd.string.R 9 w12 wB.heap.size (fun _ => True) v12 (ks.map (fun x => x.f4))) := hide (by rw [HWA.out]; unfold wantL; rw [show nil a = false from za, show nil b = true from zb]; exact HO12.out)
              obtain ⟨XS, hXS⟩ : ∃ XS, ks.map (fun x => x.f4) = XS := ⟨_, rfl⟩
              obtain ⟨m, hm⟩ : ∃ m, ks.length = m := ⟨_, rfl⟩
              have hXm : XS.length = m := by rw [← hXS, List.length_map, hm]
              have hm3 : m ≤ 3 := by rw [← hXm, ← hXS, HWA.out]; exact want_len _ _ _
              rw [hXS] at HV
              obtain ⟨A7, c7, rfl, l7, g7⟩ := Kd.R_reads HV.out
              rw [hXm]
              have hk5 := cellW HK5.out HB12.out
              have hx5 := cellW HX5.out HB12.out
              rw [hm] at hk5
              have HG7 := hide g7
              have HXS := hide hXS
              have HM := hide hm
              clear HV hXS g7 l7 hm
              go_wp2_with fail
              go_loopw [18] (fun iv wr => ∃ j : Nat, iv = .int .i64 (j : Int) ∧ j ≤ m ∧ Aside0 (Below w12.heap.size w12 wr)) (fun iv _ => m - (intOf iv).toNat)
              case atStart => exact ⟨0, rfl, Nat.zero_le _, ⟨Below.refl _ _⟩⟩
              case round =>
                obtain ⟨j, rfl, hj, hrel⟩ := hrel
                by_cases hlj : j < m
                · obtain ⟨ad6, A3q, c3q, A5q, c5q, rfl, q0, q1, q2, q3, q4, _, _, _, _, _⟩ := at_T35 (Kd.C_below (Kd.C_below HGB.out HB12.out) hrel.out) (j : Int) (by omega) (by rw [HM.out]; omega)
                  obtain ⟨ad7, rfl, q7⟩ := cell_at HG7.out ⟨#[]⟩ j (by omega)
                  have q7 := cellW q7 hrel.out
                  have p5 := cellW hk5 hrel.out
                  have o5 := cellW hx5 hrel.out
                  rw [← HXS.out, want_at ks j (by rw [HM.out]; exact hlj)] at q7
                  obtain ⟨z, hz⟩ : ∃ z, (rd_T35 ks (j : Int)).f4 = z := ⟨_, rfl⟩
                  rw [hz] at q4 q7
                  rw [Int.toNat_natCast] at q4
                  have hlj1 : (j : Int) < (m : Int) := by omega
                  have hlj0 : (0 : Int) ≤ (j : Int) := by omega
                  clear q0 q1 q2 q3 hz hk5 hx5
                  have HRL := hide hrel.out
                  clear hrel
                  go_wp2_with fail
                  go_quiet (fail)
                  go_wp2_with fail
                  go_roundw
                  case rel => exact ⟨j + 1, rfl, by omega, ⟨by first | exact HRL.out | exact pw_below_drewN HRL.out _⟩⟩
                  case measure => (try simp only [intOf]); omega
                · have HRL := hide hrel.out
                  clear hrel
                  go_wp2_with (go_at_call 18; (with_reducible refine (known _).mono ?_); rintro e w20 ⟨rfl, hb⟩; have HE := hide hb; clear hb)
                  go_ret
                  exact ⟨rfl, below_step (below_step (below_step H8B.out.b HB12.out) HRL.out) HE.out⟩
          · have za2 : a.toList.isEmpty = true := za
            rcases zb : nil b with _ | _
            · have zb2 : b.toList.isEmpty = false := zb
              go_upto_region 30 with (first | (at_builtin; refine Kd.R_append Kd.string (w0 := wB) wB.heap.size rfl (.tmp 108) (.tmp 109) 22 9 (.string ⟨#[]⟩) 16 rfl Try.underlying22 infozS rfl (by decide) (by decide) (.slice none 0 0) ([]) ⟨#[99]⟩ [Value.string ⟨#[99]⟩] (fun _ => True) (fun _ => False) rfl rfl rfl (fun k hk => hk.elim) (fun _ _ => trivial) HO0.out (Below.refl _ _) hz0 (by simp) ?_; intro v12 w12 ho hb hg hown; have HO12 := hide ho; have HB12 := hide (HB0.out.trans hb); have hz12 := HB12.out.size; clear ho hb hg hown) | (at_builtin; refine Kd.R_append Kd.string (w0 := w12) wB.heap.size rfl (.tmp 113) (.tmp 115) 22 9 (.string ⟨#[]⟩) 16 rfl Try.underlying22 infozS rfl (by decide) (by decide) v12 ([] ++ [⟨#[99]⟩]) b [Value.string b] (fun _ => True) (fun _ => False) rfl rfl rfl (fun k hk => hk.elim) (fun _ _ => trivial) HO12.out (Below.refl _ _) hz12 (by simp) ?_; intro v13 w13 ho hb hg hown; have HO13 := hide ho; have HB13 := hide (HB12.out.trans hb); have hz13 := HB13.out.size; clear ho hb hg hown))
              have HV : Hid (Kd.string.R 9 w13 wB.heap.size (fun _ => True) v13 (ks.map (fun x => x.f4))) := hide (by rw [HWA.out]; unfold wantL; rw [show nil a = true from za, show nil b = false from zb]; exact HO13.out)
              obtain ⟨XS, hXS⟩ : ∃ XS, ks.map (fun x => x.f4) = XS := ⟨_, rfl⟩
              obtain ⟨m, hm⟩ : ∃ m, ks.length = m := ⟨_, rfl⟩
              have hXm : XS.length = m := by rw [← hXS, List.length_map, hm]
              have hm3 : m ≤ 3 := by rw [← hXm, ← hXS, HWA.out]; exact want_len _ _ _
              rw [hXS] at HV
              obtain ⟨A7, c7, rfl, l7, g7⟩ := Kd.R_reads HV.out
              rw [hXm]
              have hk5 := cellW HK5.out HB13.out
              have hx5 := cellW HX5.out HB13.out
              rw [hm] at hk5
              have HG7 := hide g7
              have HXS := hide hXS
              have HM := hide hm
              clear HV hXS g7 l7 hm
              go_wp2_with fail
              go_loopw [18] (fun iv wr => ∃ j : Nat, iv = .int .i64 (j : Int) ∧ j ≤ m ∧ Aside0 (Below w13.heap.size w13 wr)) (fun iv _ => m - (intOf iv).toNat)
              case atStart => exact ⟨0, rfl, Nat.zero_le _, ⟨Below.refl _ _⟩⟩
              case round =>
                obtain ⟨j, rfl, hj, hrel⟩ := hrel
                by_cases hlj : j < m
                · obtain ⟨ad6, A3q, c3q, A5q, c5q, rfl, q0, q1, q2, q3, q4, _, _, _, _, _⟩ := at_T35 (Kd.C_below (Kd.C_below HGB.out HB13.out) hrel.out) (j : Int) (by omega) (by rw [HM.out]; omega)
                  obtain ⟨ad7, rfl, q7⟩ := cell_at HG7.out ⟨#[]⟩ j (by omega)
                  have q7 := cellW q7 hrel.out
                  have p5 := cellW hk5 hrel.out
                  have o5 := cellW hx5 hrel.out
                  rw [← HXS.out, want_at ks j (by rw [HM.out]; exact hlj)] at q7
                  obtain ⟨z, hz⟩ : ∃ z, (rd_T35 ks (j : Int)).f4 = z := ⟨_, rfl⟩
                  rw [hz] at q4 q7
                  rw [Int.toNat_natCast] at q4
                  have hlj1 : (j : Int) < (m : Int) := by omega
                  have hlj0 : (0 : Int) ≤ (j : Int) := by omega
                  clear q0 q1 q2 q3 hz hk5 hx5
                  have HRL := hide hrel.out
                  clear hrel
                  go_wp2_with fail
                  go_quiet (fail)
                  go_wp2_with fail
                  go_roundw
                  case rel => exact ⟨j + 1, rfl, by omega, ⟨by first | exact HRL.out | exact pw_below_drewN HRL.out _⟩⟩
                  case measure => (try simp only [intOf]); omega
                · have HRL := hide hrel.out
                  clear hrel
                  go_wp2_with (go_at_call 18; (with_reducible refine (known _).mono ?_); rintro e w20 ⟨rfl, hb⟩; have HE := hide hb; clear hb)
                  go_ret
                  exact ⟨rfl, below_step (below_step (below_step H8B.out.b HB13.out) HRL.out) HE.out⟩
            · have zb2 : b.toList.isEmpty = true := zb
              go_upto_region 30 with (first | (at_builtin; refine Kd.R_append Kd.string (w0 := wB) wB.heap.size rfl (.tmp 108) (.tmp 109) 22 9 (.string ⟨#[]⟩) 16 rfl Try.underlying22 infozS rfl (by decide) (by decide) (.slice none 0 0) ([]) ⟨#[99]⟩ [Value.string ⟨#[99]⟩] (fun _ => True) (fun _ => False) rfl rfl rfl (fun k hk => hk.elim) (fun _ _ => trivial) HO0.out (Below.refl _ _) hz0 (by simp) ?_; intro v12 w12 ho hb hg hown; have HO12 := hide ho; have HB12 := hide (HB0.out.trans hb); have hz12 := HB12.out.size; clear ho hb hg hown))
              have HV : Hid (Kd.string.R 9 w12 wB.heap.size (fun _ => True) v12 (ks.map (fun x => x.f4))) := hide (by rw [HWA.out]; unfold wantL; rw [show nil a = true from za, show nil b = true from zb]; exact HO12.out)
              obtain ⟨XS, hXS⟩ : ∃ XS, ks.map (fun x => x.f4) = XS := ⟨_, rfl⟩
              obtain ⟨m, hm⟩ : ∃ m, ks.length = m := ⟨_, rfl⟩
              have hXm : XS.length = m := by rw [← hXS, List.length_map, hm]
              have hm3 : m ≤ 3 := by rw [← hXm, ← hXS, HWA.out]; exact want_len _ _ _
              rw [hXS] at HV
              obtain ⟨A7, c7, rfl, l7, g7⟩ := Kd.R_reads HV.out
              rw [hXm]
              have hk5 := cellW HK5.out HB12.out
              have hx5 := cellW HX5.out HB12.out
              rw [hm] at hk5
              have HG7 := hide g7
              have HXS := hide hXS
              have HM := hide hm
              clear HV hXS g7 l7 hm
              go_wp2_with fail
              go_loopw [18] (fun iv wr => ∃ j : Nat, iv = .int .i64 (j : Int) ∧ j ≤ m ∧ Aside0 (Below w12.heap.size w12 wr)) (fun iv _ => m - (intOf iv).toNat)
              case atStart => exact ⟨0, rfl, Nat.zero_le _, ⟨Below.refl _ _⟩⟩
              case round =>
                obtain ⟨j, rfl, hj, hrel⟩ := hrel
                by_cases hlj : j < m
                · obtain ⟨ad6, A3q, c3q, A5q, c5q, rfl, q0, q1, q2, q3, q4, _, _, _, _, _⟩ := at_T35 (Kd.C_below (Kd.C_below HGB.out HB12.out) hrel.out) (j : Int) (by omega) (by rw [HM.out]; omega)
                  obtain ⟨ad7, rfl, q7⟩ := cell_at HG7.out ⟨#[]⟩ j (by omega)
                  have q7 := cellW q7 hrel.out
                  have p5 := cellW hk5 hrel.out
                  have o5 := cellW hx5 hrel.out
                  rw [← HXS.out, want_at ks j (by rw [HM.out]; exact hlj)] at q7
                  obtain ⟨z, hz⟩ : ∃ z, (rd_T35 ks (j : Int)).f4 = z := ⟨_, rfl⟩
                  rw [hz] at q4 q7
                  rw [Int.toNat_natCast] at q4
                  have hlj1 : (j : Int) < (m : Int) := by omega
                  have hlj0 : (0 : Int) ≤ (j : Int) := by omega
                  clear q0 q1 q2 q3 hz hk5 hx5
                  have HRL := hide hrel.out
                  clear hrel
                  go_wp2_with fail
                  go_quiet (fail)
                  go_wp2_with fail
                  go_roundw
                  case rel => exact ⟨j + 1, rfl, by omega, ⟨by first | exact HRL.out | exact pw_below_drewN HRL.out _⟩⟩
                  case measure => (try simp only [intOf]); omega
                · have HRL := hide hrel.out
                  clear hrel
                  go_wp2_with (go_at_call 18; (with_reducible refine (known _).mono ?_); rintro e w20 ⟨rfl, hb⟩; have HE := hide hb; clear hb)
                  go_ret
                  exact ⟨rfl, below_step (below_step (below_step H8B.out.b HB12.out) HRL.out) HE.out⟩
end Go.Proofs.Ytjebpaapkmbahaa.Ar
