/- The walk of the law AttrsMore: true. -/
import Derived.Test.YtgjnopabdipleaaAttrsMorePlain
import Derived.Test.YtgjnopabdipleaaAttrsKnown
import Derived.Test.YtgjnopabdipleaaAttrsShort
import Derived.Test.YtgjnopabdipleaaAttrsWithin
import Derived.Deep.RegionLaw
namespace Go.Proofs.Ytgjnopabdipleaa.Attrs
open Go.RowKit Go.Proofs.Ytgjnopabdipleaa.PAttrsTells Go.Proofs.YtgjnopabdipleaaW.PrintWords Go.Proofs.YtgjnopabdipleaaW.PrintLast

theorem rds_below {w w1 : World} {A : Option Addr} {c : Nat} {xs : List S29} (h : Rds w A c xs) (hb : Below w.heap.size w w1) : Rds w1 A c xs := ⟨Kd.C_below h.1 hb, h.2⟩
theorem rds_take {w : World} {A : Option Addr} {c : Nat} {xs : List S29} (h : Rds w A c xs) (m : Nat) (hm : m ≤ xs.length) : Rds w A c (xs.take m) := ⟨Kd.C_take h.1 hm, by rw [List.length_take]; have := h.2; omega⟩

theorem lit_R (W : World) (base : Nat) (hb : base ≤ W.heap.size) : Kd.R k29 29 (W.alloc (.cells #[] 29)) base (fun _ => True) (.slice (some ⟨W.heap.size, 0, none⟩) 0 0) [] :=
  ⟨fun _ _ => trivial, [], by have := World.ownsRow_lit (base := base) (e := 29) (size := 2) W #[] 0 hb (by simp) rfl; exact this, Reps.none _ _⟩
set_option maxHeartbeats 2000000 in
set_option maxRecDepth 100000 in
theorem attrsMore (A : Option Addr) (c : Nat) (xs : List S29) (B : Option Addr) (d : Nat) (ys : List S29) (turn : Int) (w : World) (h : Rds w A c xs) (hy : Rds w B d ys) :
    Calls Try.prog 3 #[.slice A xs.length c, .slice B ys.length d, .int .i64 turn] w fun e w' => e = .returned (.bool true) ∧ Below w.heap.size w w' := by
  have HX := hide h
  have HY := hide hy
  clear h hy
  go_enter Try.func3, Try.ntmps3
  go_wp2_with fail
  refine (short A c xs _ HX.out).mono ?_
  rintro e w1 ⟨ls, hls, v, rfl, hR, hb1⟩
  obtain ⟨A1, c1, rfl, hl1, hC1⟩ := Kd.R_reads hR
  have HL := hide (show Rds w1 A1 c1 ls from ⟨hC1, hl1⟩)
  have HY1 := hide (rds_below HY.out hb1)
  have HB1 := hide hb1
  clear hR hl1 hC1 hb1 HX HY
  obtain ⟨n, hn⟩ : ∃ n, ls.length = n := ⟨_, rfl⟩
  have HN := hide hn
  rw [hn] at hls
  rw [hn]
  clear hn
  dsimp only
  go_wp2_with fail
  refine (short B d ys _ HY1.out).mono ?_
  rintro e w2 ⟨ms, hms, v, rfl, hR, hb2⟩
  obtain ⟨B1, d1, rfl, hl1, hC1⟩ := Kd.R_reads hR
  have HM := hide (show Rds w2 B1 d1 ms from ⟨hC1, hl1⟩)
  have HL2 := hide (rds_below HL.out hb2)
  have HB2 := hide (below_step HB1.out hb2)
  clear hR hl1 hC1 hb2 HL HY1 HB1
  obtain ⟨m, hm⟩ : ∃ n, ms.length = n := ⟨_, rfl⟩
  have HMN := hide hm
  rw [hm] at hms
  rw [hm]
  clear hm
  dsimp only
  go_wp2_with fail
  have hc := more A1 B1 c1 d1 ls ms w2 HL2.out HM.out (by rw [HN.out, HMN.out]; omega)
  rw [HN.out, HMN.out] at hc
  refine hc.mono ?_
  clear hc
  rintro e w3 ⟨v, rfl, hR, hb⟩
  obtain ⟨X, cx, rfl, hl1, hC1⟩ := Kd.R_reads hR
  have hlen := moreL_len ls ms
  have hge := more_len_ge ls ms
  have htk := more_take ls ms
  have hmm := more_more ls ms
  have hgt := more_get ls ms
  obtain ⟨zs, hzs⟩ : ∃ zs, moreL ls ms = zs := ⟨_, rfl⟩
  rw [hzs] at hl1 hC1 hlen hge htk hmm hgt
  rw [hzs]
  rw [HN.out] at htk
  rw [HN.out, HMN.out] at hlen
  rw [HN.out] at hge
  have HZ := hide (show Rds w3 X cx zs from ⟨hC1, hl1⟩)
  have HL3 := hide (rds_below HL2.out hb)
  have HM3 := hide (rds_below HM.out hb)
  have HB3 := hide (below_step HB2.out hb)
  have HTK := hide htk
  have HMM := hide hmm
  have HGT := hide hgt
  clear hR hl1 hC1 hb HL2 HM HB2 htk hmm hgt hzs
  obtain ⟨p, hp⟩ : ∃ n, zs.length = n := ⟨_, rfl⟩
  have HP := hide hp
  rw [hp] at hlen hge
  rw [hp]
  clear hp
  dsimp only
  have q1 : decide (p < n) = false := decide_eq_false (by omega)
  have q2 : (n : Int) ≤ (p : Int) := by omega
  have hroom : p ≤ cx := by have := HZ.out.2; rw [HP.out] at this; exact this
  obtain ⟨i0, hi0, _, hsz0, _⟩ := info_parts info29
  have hcut := cut_to (P := Try.prog) 22 29 .i64 Try.underlying22 hi0 X p cx (n : Int) (by omega) q2 hroom
  rw [Int.toNat_natCast] at hcut
  go_wp2_with fail
  have HZT := hide (show Rds w3 X cx ls from by rw [← HTK.out]; exact rds_take HZ.out n (by rw [HP.out]; omega))
  have hs := attrs_Same.calls 20 X cx ls A1 c1 ls true w3 HZT.out.1 HZT.out.2 HL3.out.1 HL3.out.2 (by rw [attrsSame_some _ _ (by rw [HN.out]; omega) 20 (by rw [HN.out]; omega), eqAll_refl])
  rw [HN.out] at hs
  refine hs.mono ?_
  clear hs
  rintro e w4 ⟨rfl, ⟨nd, rfl⟩⟩
  have hd := pw_below_drewN (Below.refl w3.heap.size w3) nd
  have HZ4 := hide (rds_below HZ.out hd)
  have HL4 := hide (rds_below HL3.out hd)
  have HM4 := hide (rds_below HM3.out hd)
  have HB4 := hide (below_step HB3.out hd)
  clear hd HZ HL3 HM3 HB3 HZT
  obtain ⟨w4, hw4⟩ : ∃ w4, w3.drewN nd = w4 := ⟨_, rfl⟩
  rw [hw4] at HZ4 HL4 HM4 HB4 ⊢
  clear hw4
  dsimp only
  go_wp2_with fail
  have hc := more X B1 cx d1 zs ms w4 HZ4.out HM4.out (by rw [HP.out, HMN.out]; omega)
  rw [HP.out, HMN.out, HMM.out] at hc
  refine hc.mono ?_
  clear hc
  rintro e w5 ⟨v, rfl, hR, hb⟩
  obtain ⟨X5, c5, rfl, hl1, hC1⟩ := Kd.R_reads hR
  have HZ6 := hide (show Rds w5 X5 c5 zs from ⟨hC1, hl1⟩)
  have HZ5 := hide (rds_below HZ4.out hb)
  have HL5 := hide (rds_below HL4.out hb)
  have HM5 := hide (rds_below HM4.out hb)
  have HB5 := hide (below_step HB4.out hb)
  clear hR hl1 hC1 hb HZ4 HL4 HM4 HB4
  rw [HP.out]
  dsimp only
  go_wp2_with fail
  have hs := attrs_Same.calls 20 X5 c5 zs X cx zs true w5 HZ6.out.1 HZ6.out.2 HZ5.out.1 HZ5.out.2 (by rw [attrsSame_some _ _ (by rw [HP.out]; omega) 20 (by rw [HP.out]; omega), eqAll_refl])
  rw [HP.out] at hs
  refine hs.mono ?_
  clear hs
  rintro e w6 ⟨rfl, ⟨nd, rfl⟩⟩
  have hd := pw_below_drewN (Below.refl w5.heap.size w5) nd
  have HZ7 := hide (rds_below HZ5.out hd)
  have HL7 := hide (rds_below HL5.out hd)
  have HM7 := hide (rds_below HM5.out hd)
  have HB7 := hide (below_step HB5.out hd)
  clear hd HZ5 HL5 HM5 HB5 HZ6
  obtain ⟨w7, hw7⟩ : ∃ w7, w5.drewN nd = w7 := ⟨_, rfl⟩
  rw [hw7] at HZ7 HL7 HM7 HB7 ⊢
  clear hw7
  dsimp only
  go_wp2_with fail
  clear q1 q2 hcut
  go_loopw [8, 9, 10, 11, 12] (fun i _ _ _ _ wr => ∃ k : Nat, k ≤ m ∧ i = .int .i64 k ∧ Aside0 (Below w.heap.size w wr) ∧ Aside0 (Rds wr A1 c1 ls) ∧ Aside0 (Rds wr B1 d1 ms) ∧ Aside0 (Rds wr X cx zs)) (fun i _ _ _ _ _ => m - (intOf i).toNat)
  case atStart => exact ⟨0, by omega, rfl, ⟨HB7.out⟩, ⟨HL7.out⟩, ⟨HM7.out⟩, ⟨HZ7.out⟩⟩
  case round =>
    clear HB7 HL7 HM7 HZ7
    obtain ⟨k, hk, rfl, HB, HL, HM, HZ⟩ := hrel
    by_cases hlt : k < m
    · obtain ⟨ad1, hA1, hc1, _⟩ := at_T29 HM.out.1 (k : Int) (by omega) (by rw [HMN.out]; omega)
      subst hA1
      unfold rd_T29 at hc1
      rw [Int.toNat_natCast] at hc1
      have hkm : k < ms.length := by rw [HMN.out]; exact hlt
      have hmem : ms.getD k z29 ∈ ms := by
        rw [List.getD_eq_getElem?_getD, List.getElem?_eq_getElem hkm]
        exact List.getElem_mem _
      obtain ⟨g1, g2⟩ := HGT.out _ hmem
      obtain ⟨nm, hnm⟩ : ∃ b, (ms.getD k z29).f0 = b := ⟨_, rfl⟩
      rw [hnm] at hc1 g1 g2
      clear hmem hnm hkm
      have k1 : (k : Int) < m := by omega
      have k2 : (0 : Int) ≤ (k : Int) := by omega
      go_wp2_with fail
      have hg := get X cx zs nm wr HZ.out
      rw [HP.out] at hg
      refine hg.mono ?_
      clear hg
      rintro e w8 ⟨rfl, hb8⟩
      have hc2 : w8.cell? (ad1.add (k * 2)) = some (.string nm) := by
        rw [hb8.cell (p := ad1.add (k * 2)) (World.block_lt_of_cell? _ _ hc1)]; exact hc1
      have HB8 := hide (below_step HB.out hb8)
      have HL8 := hide (rds_below HL.out hb8)
      have HM8 := hide (rds_below HM.out hb8)
      have HZ8 := hide (rds_below HZ.out hb8)
      clear hc1 hb8 HB HL HM HZ
      rw [decide_eq_true g1]
      obtain ⟨v1, hv1⟩ : ∃ v, getV zs nm = v := ⟨_, rfl⟩
      rw [hv1] at g2 ⊢
      clear hv1
      dsimp only
      go_wp2_with fail
      have hg := get A1 c1 ls nm w8 HL8.out
      rw [HN.out] at hg
      refine hg.mono ?_
      clear hg
      rintro e w9 ⟨rfl, hb9⟩
      have HB9 := hide (below_step HB8.out hb9)
      have HL9 := hide (rds_below HL8.out hb9)
      have HM9 := hide (rds_below HM8.out hb9)
      have HZ9 := hide (rds_below HZ8.out hb9)
      clear hc2 hb9 HB8 HL8 HM8 HZ8
      obtain ⟨v2, hv2⟩ : ∃ v, getV ls nm = v := ⟨_, rfl⟩
      rw [hv2] at g2 ⊢
      clear hv2
      by_cases his : 0 ≤ fnd ls nm
      · rw [decide_eq_true his, ← g2 his]
        clear his g2 g1
        dsimp only
        go_wp2_with fail
        go_roundw
        case rel => exact ⟨k + 1, by omega, by go_num, ⟨HB9.out⟩, ⟨HL9.out⟩, ⟨HM9.out⟩, ⟨HZ9.out⟩⟩
        case measure => simp only [intOf]; omega
      · rw [decide_eq_false his]
        clear his g2 g1
        dsimp only
        go_wp2_with fail
        go_roundw
        case rel => exact ⟨k + 1, by omega, by go_num, ⟨HB9.out⟩, ⟨HL9.out⟩, ⟨HM9.out⟩, ⟨HZ9.out⟩⟩
        case measure => simp only [intOf]; omega
    · have hkn : k = m := by omega
      subst hkn
      clear hlt hk HGT HMM HTK
      go_wp2_with fail
      have hc := unique A1 c1 ls wr HL.out (by rw [HN.out]; omega)
      rw [HN.out] at hc
      refine hc.mono ?_
      clear hc
      rintro e w8 ⟨v, rfl, hR, hb⟩
      obtain ⟨U, cu, rfl, hl1, hC1⟩ := Kd.R_reads hR
      have hnil := more_nil ls
      have hul := moreL_len [] ls
      have hperm := fun k => rot_perm (moreL [] ls) k
      have hnd := nd_unique ls
      have halk := fun us => alike_unique (us := us) (xs := ls)
      obtain ⟨us, hus⟩ : ∃ us, moreL [] ls = us := ⟨_, rfl⟩
      rw [hus] at hnil hul hperm hnd hl1 hC1
      simp only [hus] at halk
      rw [hus]
      clear hus
      have HL8 := hide (rds_below HL.out hb)
      have HU := hide (show Rds w8 U cu us from ⟨hC1, hl1⟩)
      have HB8 := hide (below_step HB.out hb)
      have HPM := hide hperm
      have HND := hide hnd
      have HALK := hide halk
      have HNIL := hide hnil
      clear hR hb hl1 hC1 HL HB HM HZ hperm hnd halk hnil
      obtain ⟨u, hu⟩ : ∃ n, us.length = n := ⟨_, rfl⟩
      have HUN := hide hu
      rw [hu, HN.out] at hul
      rw [hu]
      clear hu
      dsimp only
      by_cases h0 : u = 0
      · have hn0 : n = 0 := by
          rw [← HN.out, HNIL.out (List.eq_nil_of_length_eq_zero (by rw [HUN.out]; exact h0))]; rfl
        subst h0 hn0
        go_wp2_with fail
        refine (known _).mono ?_
        rintro e w9 ⟨rfl, hb⟩
        have HB9 := hide (below_step HB8.out hb)
        clear HB8 hb
        dsimp only
        go_wp2_with fail
        go_ret
        exact ⟨rfl, HB9.out⟩
      · have hu1 : (1 : Int) ≤ (u : Int) := by omega
        have hu6 : u ≤ 6 := by simp at hul; omega
        have hu0 : decide ((u : Int) = 0) = false := decide_eq_false (by omega)
        have hu00 : decide (u = 0) = false := decide_eq_false (by omega)
        go_wp2_with fail
        refine (within turn ((u : Int) - 1) w8 (by omega) (by omega)).mono ?_
        rintro e w9 ⟨r, hr0, hr1, rfl, hb⟩
        obtain ⟨j, rfl⟩ := Int.eq_ofNat_of_zero_le hr0
        have HB9 := hide (below_step HB8.out hb)
        have HL9 := hide (rds_below HL8.out hb)
        have HU9 := hide (rds_below HU.out hb)
        clear hb HB8 HL8 HU
        have hju : j < u := by omega
        dsimp only
        go_wp2_with fail
        have q1 : (j : Int) ≤ (u : Int) := by omega
        have hroomu : u ≤ cu := by have := HU9.out.2; rw [HUN.out] at this; exact this
        have hcut1 := cut_to (P := Try.prog) 22 29 .i64 Try.underlying22 hi0 U u cu (j : Int) (by omega) q1 hroomu
        have hcut2 := cut_from (P := Try.prog) 22 29 .i64 Try.underlying22 hi0 2 hsz0 U u cu (j : Int) (by omega) q1
        rw [Int.toNat_natCast] at hcut1 hcut2
        have hT := hide (rds_take HU9.out j (by rw [HUN.out]; omega))
        have hD := hide (Kd.C_drop (c := cu) (m := j) HU9.out.1 (by rw [HUN.out]; omega) (by rw [HUN.out]; exact hroomu))
        obtain ⟨D, hDD⟩ : ∃ D, (if cu = j then U else U.map (·.add (j * 2))) = D := ⟨_, rfl⟩
        rw [hDD] at hcut2
        have hDC : ∀ W1, Below w9.heap.size w9 W1 → ReadsRow (k29.K w9) 2 W1 D (u - j) (us.drop j) := by
          intro W1 hb
          have h := hD.out
          rw [List.length_drop, HUN.out] at h
          rw [← hDD]
          exact ReadsRow.imp_ h hb (fun _ _ hp => hp)
        have hTC : ∀ W1, Below w9.heap.size w9 W1 → ReadsRow (k29.K w9) 2 W1 U j (us.take j) := by
          intro W1 hb
          have h := hT.out.1
          rw [List.length_take, HUN.out, Nat.min_eq_left (by omega)] at h
          exact ReadsRow.imp_ h hb (fun _ _ hp => hp)
        have hdl : (us.drop j).length = u - j := by rw [List.length_drop, HUN.out]
        have HDC := hide hDC
        have HTC := hide hTC
        have HDL := hide hdl
        clear hDC hTC hdl hDD hT hD
        go_region_law (first
          | (refine Kd.R_append_rows_step k29 (Rr := k29.K w9) (w0 := w9) w9.heap.size rfl (.tmp 97) (.tmp 100) 22 29 (.agg #[.string ⟨#[]⟩, .string ⟨#[]⟩]) 32 rfl Try.underlying22 (by kernel_rfl) rfl (by decide) (by decide) (.slice (some ⟨w9.heap.size, 0, none⟩) 0 0) [] (us.drop j) D (u - j) (cu - j) (fun _ => True) (fun _ => False) rfl rfl (lit_R w9.drew w9.heap.size (Nat.le_refl _)) (HDC.out _ (below_alloc (Below.refl _ _).drew _)) (fun x cs hx => by rw [k29_open hx]; exact k29_mkM _ _ _ _) (fun k hk => hk.elim) (fun _ _ => trivial) (below_alloc (Below.refl _ _).drew _) (below_alloc (Below.refl _ _).drew _).size (by simp; omega) ?_; intro v1 wA ho hb hg hown; rw [List.nil_append] at ho; have HO1 := hide ho; have HA1 := hide hb; clear ho hb hg hown)
          | (refine Kd.R_append_rows_step k29 (Rr := k29.K w9) (w0 := w9) w9.heap.size rfl (.tmp 101) (.tmp 104) 22 29 (.agg #[.string ⟨#[]⟩, .string ⟨#[]⟩]) 32 rfl Try.underlying22 (by kernel_rfl) rfl (by decide) (by decide) v1 (us.drop j) (us.take j) U j cu (fun _ => True) (fun _ => False) rfl rfl HO1.out (HTC.out _ HA1.out) (fun x cs hx => by rw [k29_open hx]; exact k29_mkM _ _ _ _) (fun k hk => hk.elim) (fun _ _ => trivial) HA1.out HA1.out.size (by rw [HDL.out]; omega) ?_; intro v2 wB ho hb hg hown; have HO2 := hide ho; have HA2 := hide hb; clear ho hb hg hown))
        have HO3 := HO2.out
        have hrp := HPM.out j
        obtain ⟨rs, hrs⟩ : ∃ rs, us.drop j ++ us.take j = rs := ⟨_, rfl⟩
        rw [hrs] at hrp HO3
        clear hrs HO2 HO1 HDC HTC HDL hcut1 hcut2 HPM
        obtain ⟨R1, cr, rfl, hl1, hC1⟩ := Kd.R_reads HO3
        have hrl : rs.length = u := by rw [hrp.length_eq]; exact HUN.out
        have HRL := hide hrl
        have HR := hide (show Rds wB R1 cr rs from ⟨hC1, hl1⟩)
        have HLB := hide (rds_below HL9.out HA2.out)
        have HUB := hide (rds_below HU9.out HA2.out)
        have HBB := hide (below_step HB9.out HA2.out)
        have HRP := hide hrp
        clear HO3 hl1 hC1 HL9 HU9 HB9 HA1 HA2 hrp
        rw [hrl]
        clear hrl
        go_wp2_with fail
        have hc := alike U R1 cu cr us rs wB HUB.out HR.out (by rw [HUN.out]; omega) (by rw [HRL.out]; omega)
        rw [HUN.out, HRL.out, alike_perm HND.out HRP.out.symm] at hc
        refine hc.mono ?_
        clear hc
        rintro e wC ⟨rfl, hb⟩
        have HLC := hide (rds_below HLB.out hb)
        have HRC := hide (rds_below HR.out hb)
        have HBC := hide (below_step HBB.out hb)
        clear hb HLB HR HBB HUB
        dsimp only
        go_wp2_with fail
        have hc := alike R1 A1 cr c1 rs ls wC HRC.out HLC.out (by rw [HRL.out]; omega) (by rw [HN.out]; omega)
        rw [HRL.out, HN.out, HALK.out rs HRP.out] at hc
        refine hc.mono ?_
        clear hc
        rintro e wD ⟨rfl, hb⟩
        have HLD := hide (rds_below HLC.out hb)
        have HBD := hide (below_step HBC.out hb)
        clear hb HLC HRC HBC
        dsimp only
        go_wp2_with fail
        have hc := alike A1 A1 c1 c1 ls ls wD HLD.out HLD.out (by rw [HN.out]; omega) (by rw [HN.out]; omega)
        rw [HN.out, alike_self] at hc
        refine hc.mono ?_
        clear hc
        rintro e wE ⟨rfl, hb⟩
        have HBE := hide (below_step HBD.out hb)
        clear hb HLD HBD
        dsimp only
        go_wp2_with fail
        refine (known _).mono ?_
        rintro e wF ⟨rfl, hb⟩
        have HBF := hide (below_step HBE.out hb)
        clear HBE hb
        dsimp only
        go_wp2_with fail
        go_ret
        exact ⟨rfl, HBF.out⟩
end Go.Proofs.Ytgjnopabdipleaa.Attrs
