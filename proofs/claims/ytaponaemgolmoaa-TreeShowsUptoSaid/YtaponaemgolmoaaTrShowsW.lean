/- The walk of the law TreeShows, for readings of bounded size: it is true. -/
import Derived.Test.YtaponaemgolmoaaTrShowsP
import Derived.Test.YtaponaemgolmoaaTrTells
import Derived.Deep.DeepCutAuto
import Derived.Deep.CutBlock
namespace Go.Proofs.Ytaponaemgolmoaa.Tr
open Go.RowKit Go.Proofs.Ytaponaemgolmoaa.PTreeTells Go.Proofs.YtaponaemgolmoaaW.PrintWords Go.Proofs.YtaponaemgolmoaaW.PrintLast
set_option linter.unusedVariables false
set_option linter.unusedSimpArgs false
theorem nl_byte (s : ByteArray) (q : Nat) (h : q < s.size) : nl ((bts s).take (q + 1)) = nl ((bts s).take q) + (if (((s[q]'h).toNat : Int) == 10) = true then 1 else 0) := by
  have hq : q < (bts s).length := by rw [bts_size]; exact h
  rw [nl_take _ q hq]
  have e : (bts s)[q] = s[q]'h := (Array.getElem_toList (xs := s.data) (i := q) h)
  rw [e]
  congr 1
  by_cases hb : s[q]'h = 10
  · rw [if_pos hb, if_pos (by rw [hb]; rfl)]
  · rw [if_neg hb, if_neg (fun h2 => hb (UInt8.toNat_inj.1 (by have := beq_iff_eq.1 h2; show _ = 10; omega)))]
set_option maxHeartbeats 20000000 in
set_option maxRecDepth 100000 in
theorem treeShows (l m : List S30) (A B : Option Addr) (c d : Nat) (w : World) (hl : k30.C w A l.length l) (hc : l.length ≤ c) (hm : k30.C w B m.length m) (hd : m.length ≤ d) (hB : ∀ x ∈ l, NodeB x) :
    Calls Try.prog 3 #[.slice A l.length c, .slice B m.length d] w (RetV w (.bool true)) := by
  have HL1 := hide (fun (W : World) (h : Below w.heap.size w W) => growV true l A c W (Kd.C_below hl h) hc)
  have HM1 := hide (fun (W : World) (h : Below w.heap.size w W) => growV true m B d W (Kd.C_below hm h) hd)
  have HLINES := hide (fun n h h2 h3 hs => grow_lines l n h h2 h3 hs)
  have HEB := hide (endN_bound l hB)
  have HEZ := hide (endN_zero l)
  have HCL := hide hl
  have HLB := hide hB
  have hl9 := hl.2.1
  obtain ⟨p, hp, sp⟩ := grow_sm' true l
  obtain ⟨q, hq, sq⟩ := grow_sm' true m
  rw [hp] at HL1 HLINES
  rw [hq] at HM1
  clear hl hm hp hq hB
  have HSP := hide sp
  have HSQ := hide sq
  obtain ⟨n, hn⟩ : ∃ n, l.length = n := ⟨_, rfl⟩
  obtain ⟨k_, hk⟩ : ∃ n, m.length = n := ⟨_, rfl⟩
  rw [hn] at HL1 HCL hl9 HLINES HEB ⊢
  rw [hk] at HM1 ⊢
  have HN := hide hn
  clear hk hc hd hn
  have hcw := cnt_W p
  have hpw := sp.w
  have hpc : cntT p ≤ 100000 := by omega
  have hss := sp.shw
  obtain ⟨S, hS⟩ : ∃ S : ByteArray, ⟨(showR p []).toArray⟩ = S := ⟨_, rfl⟩
  have hSb : bts S = showR p [] := by rw [← hS]; rfl
  have hSz : S.size ≤ 1000000000000 := by rw [← bts_size, hSb]; exact hss
  have HSB := hide hSb
  obtain ⟨p0, p1, p2, p3, p4, p5⟩ := p
  obtain ⟨q0, q1, q2, q3, q4, q5⟩ := q
  dsimp only at *
  clear sp sq hcw hpw hss hSb
  have HSH := hide hS
  clear hS
  go_enter Try.func3, Try.ntmps3
  go_upto_region 2 with (first | (go_at_call 9; (with_reducible refine (HL1.out _ (Below.refl _ _)).mono ?_); rintro e wa ⟨A3, c3, A5, c5, rfl, ta, ba⟩; have HTA := hide ta; have HBA := hide ba; clear ta ba) | (go_at_call 9; (with_reducible refine (HM1.out _ HBA.out).mono ?_); rintro e wb ⟨B3, d3, B5, d5, rfl, tb, bb⟩; have HTB := hide tb; have HBB := hide (below_step HBA.out bb); have HTA2 := hide (HTA.out.below bb); clear tb bb))
  obtain ⟨w2, hw2, bw2, hP, hQ⟩ := boxes2 wb #[.int .i64 p0, .int .i64 p1, .string p2, .slice A3 p3.length c3, .string p4, .slice A5 p5.length c5] #[.int .i64 q0, .int .i64 q1, .string q2, .slice B3 q3.length d3, .string q4, .slice B5 q5.length d5]
  rw [hw2]
  clear hw2
  have HB2 := hide (below_step HBB.out bw2)
  have HTP := hide (HTA2.out.below bw2)
  have HTQ := hide (HTB.out.below bw2)
  have HP := hide hP
  have HQ := hide hQ
  obtain ⟨X, hX⟩ : ∃ X, wb.heap.size = X := ⟨_, rfl⟩
  rw [hX] at HP HQ ⊢
  clear HTA2 HTA HTB HBA HBB bw2 HL1 HM1 hP hQ hX
  have HCS := hide (fun W (h : Below w2.heap.size w2 W) => c_show _ _ W (HTP.out.below h) HSP.out)
  rw [HSH.out] at HCS
  have a0 := cell_of_row _ _ 0 _ _ _ HP.out
  have a1 := cell_of_row _ _ 1 _ _ _ HP.out
  have a2 := cell_of_row _ _ 2 _ _ _ HP.out
  have a3 := cell_of_row _ _ 3 _ _ _ HP.out
  have a4 := cell_of_row _ _ 4 _ _ _ HP.out
  have a5 := cell_of_row _ _ 5 _ _ _ HP.out
  go_upto_region 3 with (go_at_call 10; (with_reducible refine (HCS.out _ (Below.refl _ _)).mono ?_); rintro e w3 ⟨rfl, hb3⟩)
  have HB3 := hide hb3
  clear hb3 a0 a1 a2 a3 a4 a5 HCS
  go_wp2_with fail
  go_loopw [8, 10] (fun v8 i wr => ∃ j : Nat, j ≤ S.size ∧ i = .int .i64 (j : Int) ∧ v8 = .int .i64 (nl ((bts S).take j) : Nat) ∧ Aside0 (Below w2.heap.size w2 wr)) (fun _ i _ => S.size - (intOf i).toNat)
  case atStart => exact ⟨0, Nat.zero_le _, rfl, rfl, ⟨HB3.out⟩⟩
  case round =>
    clear HB3
    obtain ⟨j, hj, rfl, rfl, hbr⟩ := hrel
    have HBR := hide hbr.out
    clear hbr
    by_cases hlt : j < S.size
    · have hj1 : (j : Int) < (S.size : Int) := by omega
      have hst := nl_byte S j hlt
      have hle := nl_len ((bts S).take j)
      have hle2 : nl ((bts S).take j) ≤ 1000000000000 := by rw [List.length_take, bts_size] at hle; omega
      have kw : IntKind.i64.wrap ((nl ((bts S).take j) : Int) + 1) = (nl ((bts S).take j) : Int) + 1 := IntWalk.i64_in _ (by omega)
      cases hb : (((S[j]'hlt).toNat : Int) == 10) with
      | true =>
        rw [if_pos hb] at hst
        have HST := hide hst
        clear hst hle hle2
        go_wp2_with fail
        go_roundw
        case rel => exact ⟨j + 1, by omega, by go_num, by rw [HST.out]; simp, ⟨HBR.out⟩⟩
        case measure => simp only [intOf]; omega
      | false =>
        rw [if_neg (by rw [hb]; decide)] at hst
        have HST := hide hst
        clear hst hle hle2
        go_wp2_with fail
        go_roundw
        case rel => exact ⟨j + 1, by omega, by go_num, by rw [HST.out]; simp, ⟨HBR.out⟩⟩
        case measure => simp only [intOf]; omega
    · have hke : j = S.size := by omega
      subst hke
      have hj1 : ¬ (S.size : Int) < (S.size : Int) := by omega
      have hlines : nl ((bts S).take S.size) = nl (bts S) := by rw [List.take_of_length_le (by rw [bts_size]; exact Nat.le_refl _)]
      rw [hlines]
      obtain ⟨LN, hLN⟩ : ∃ z, nl (bts S) = z := ⟨_, rfl⟩
      rw [hLN]
      have HLN := hide hLN
      clear hlines hLN hlt hj
      go_wp2_with fail
      go_loopw [9, 11, 13, 14, 16] (fun v9 v11 _ _ _ wr => ∃ k : Nat, k ≤ n ∧ k ≤ 30 ∧ v11 = .int .i64 (k : Int) ∧ v9 = .int .i64 (endN l k : Nat) ∧ Aside0 (Below w2.heap.size w2 wr)) (fun _ v11 _ _ _ _ => 30 - (intOf v11).toNat)
      case atStart => exact ⟨0, Nat.zero_le _, by omega, rfl, rfl, ⟨HBR.out⟩⟩
      case round =>
        clear HBR hj1
        obtain ⟨k, hkn, hk30, rfl, rfl, hbr⟩ := hrel
        have HBR := hide hbr.out
        clear hbr
        by_cases hlt : k < n ∧ k < 30
        · obtain ⟨ad, Ax, cx, hA, e0, e1, e2, e3, e4, e5, lx, gx⟩ := at_T30 (Kd.C_below HCL.out (HB2.out.trans (HBR.out.mono HB2.out.size))) (k : Int) (by omega) (by have := hlt.1; omega)
          rw [Int.toNat_natCast] at e0 e1 e2 e3 e4 e5
          subst hA
          have hes := endN_succ l k (by rw [HN.out]; exact hlt.1)
          have hnb : NodeB (rd_T30 l (k : Int)) := by
            have e : rd_T30 l (k : Int) = l[k]'(by rw [HN.out]; exact hlt.1) := by
              unfold rd_T30
              rw [Int.toNat_natCast, List.getD_eq_getElem?_getD, List.getElem?_eq_getElem (by rw [HN.out]; exact hlt.1)]
              rfl
            rw [e]
            exact HLB.out _ (List.getElem_mem _)
          have hebk := HEB.out k (by omega)
          obtain ⟨⟨x0, x1, x2, x3, x4, x5⟩, hx⟩ : ∃ x, rd_T30 l (k : Int) = x := ⟨_, rfl⟩
          rw [hx] at e0 e1 e2 e3 e4 e5 lx gx hes hnb
          dsimp only at e0 e1 e2 e3 e4 e5 lx gx
          clear hx
          have kn1 : (k : Int) < (n : Int) := by have := hlt.1; omega
          have kn2 : (k : Int) < 30 := by have := hlt.2; omega
          obtain ⟨E, hE⟩ : ∃ z, endN l k = z := ⟨_, rfl⟩
          rw [hE] at hebk hes ⊢
          have hE9 : E ≤ 200000000000000 := by omega
          have HES := hide hes
          have HNB := hide hnb
          have HGX := hide gx
          have HLX := hide lx
          have HE5 := hide e5
          clear hebk hes hnb gx lx hE
          go_upto_region 12 with fail
          go_region
          have hG := blk_drew (heap_alloc_new wr (.cells #[.string x3, .string x4] 9))
          have bG := (below_alloc (Below.refl wr.heap.size wr) (.cells #[.string x3, .string x4] 9)).drew
          generalize (wr.alloc (.cells #[.string x3, .string x4] 9)).drew = wG at hG bG ⊢
          have HBG := hide (HBR.out.trans (bG.mono HBR.out.size))
          obtain ⟨G, hGe⟩ : ∃ z, wr.heap.size = z := ⟨_, rfl⟩
          rw [hGe] at hG ⊢
          have HG := hide hG
          have HE5G := hide (cellW HE5.out bG)
          have HGXG := hide (Kd.C_below HGX.out bG)
          clear hG bG hGe e0 e1 e2 e3 e4 e5 HBR HE5 HGX
          obtain ⟨c1, hc1⟩ : ∃ z, nl (bts x3) = z := ⟨_, rfl⟩
          obtain ⟨c2, hc2⟩ : ∃ z, nl (bts x4) = z := ⟨_, rfl⟩
          have hn3 := HNB.out.1
          have hn4 := HNB.out.2.1
          have hm1 : c1 ≤ 1048576 := by have := nl_len (bts x3); rw [bts_size] at this; dsimp only at hn3; omega
          have hm2 : c2 ≤ 1048576 := by have := nl_len (bts x4); rw [bts_size] at this; dsimp only at hn4; omega
          dsimp only at hn3 hn4
          go_wp2_with fail
          go_loopw [9, 13, 14, 57] (fun v9 _ _ v57 W => ∃ j : Nat, j ≤ 2 ∧ v57 = .int .i64 (j : Int) ∧ v9 = .int .i64 (E + (if j = 0 then 0 else if j = 1 then c1 else c1 + c2) : Nat) ∧ Aside0 (Below wG.heap.size wG W)) (fun _ _ _ v57 _ => 2 - (intOf v57).toNat)
          case atStart => exact ⟨0, by omega, rfl, rfl, ⟨Below.refl _ _⟩⟩
          case round =>
            obtain ⟨j, hj2, rfl, rfl, hbw⟩ := hrel
            have HBW := hide hbw.out
            clear hbw
            by_cases hj : j < 2
            · have kj1 : (j : Int) < 2 := by omega
              obtain ⟨y, c, hyc⟩ : ∃ (y : ByteArray) (c : Nat), ((j = 0 ∧ y = x3) ∨ (j = 1 ∧ y = x4)) ∧ nl (bts y) = c := by
                by_cases h0 : j = 0
                · exact ⟨x3, _, .inl ⟨h0, rfl⟩, rfl⟩
                · exact ⟨x4, _, .inr ⟨by omega, rfl⟩, rfl⟩
              have hGW := (HBW.out.block _ (blk_lt HG.out)).trans HG.out
              have z : wr.cell? ⟨G, j, none⟩ = some (.string y) := by
                rcases hyc.1 with ⟨h0, rfl⟩ | ⟨h0, rfl⟩
                · rw [h0]; exact cell_of_row _ _ 0 _ _ _ hGW
                · rw [h0]; exact cell_of_row _ _ 1 _ _ _ hGW
              have z1 : wr.cell? ((⟨G, 0, none⟩ : Addr).add j) = some (.string y) := by rw [add0]; exact z
              obtain ⟨M, hM⟩ : ∃ z, E + (if j = 0 then 0 else if j = 1 then c1 else c1 + c2) = z := ⟨_, rfl⟩
              have hMn : E + (if j + 1 = 0 then 0 else if j + 1 = 1 then c1 else c1 + c2) = M + c := by
                rcases hyc.1 with ⟨h0, rfl⟩ | ⟨h0, rfl⟩
                · rw [← hM, h0, ← hyc.2, hc1]; simp
                · rw [← hM, h0, ← hyc.2, hc2]; simp; omega
              have hM9 : M ≤ 200000010000000 := by rw [← hM]; split <;> (try split) <;> omega
              have hy9 : y.size ≤ 1048576 := by rcases hyc.1 with ⟨h0, rfl⟩ | ⟨h0, rfl⟩ <;> omega
              rw [hM]
              have HMN := hide hMn
              have HYC := hide hyc.2
              clear hyc hM hMn hGW
              go_wp2_with fail
              go_loopw [9, 14] (fun v9 v14 W => ∃ t : Nat, t ≤ y.size ∧ v14 = .int .i64 (t : Int) ∧ v9 = .int .i64 (M + nl ((bts y).take t) : Nat) ∧ Aside0 (Below wG.heap.size wG W)) (fun _ v14 _ => y.size - (intOf v14).toNat)
              case atStart => exact ⟨0, Nat.zero_le _, rfl, rfl, ⟨HBW.out⟩⟩
              case round =>
                clear HBW z z1
                obtain ⟨t, ht, rfl, rfl, hbv⟩ := hrel
                have HBV := hide hbv.out
                clear hbv
                by_cases htl : t < y.size
                · have kt1 : (t : Int) < (y.size : Int) := by omega
                  have hst := nl_byte y t htl
                  have hle := nl_len ((bts y).take t)
                  have hle2 : nl ((bts y).take t) ≤ 1048576 := by rw [List.length_take, bts_size] at hle; omega
                  obtain ⟨Z, hZ⟩ : ∃ z, nl ((bts y).take t) = z := ⟨_, rfl⟩
                  rw [hZ] at hst hle2 ⊢
                  have kw : IntKind.i64.wrap (((M + Z : Nat) : Int) + 1) = ((M + Z : Nat) : Int) + 1 := IntWalk.i64_in _ (by omega)
                  have kw2 : IntKind.i64.wrap ((M : Int) + (Z : Int) + 1) = (M : Int) + (Z : Int) + 1 := IntWalk.i64_in _ (by omega)
                  cases hb : (((y[t]'htl).toNat : Int) == 10) with
                  | true =>
                    rw [if_pos hb] at hst
                    have HST := hide hst
                    clear hst hle hle2 hZ
                    go_wp2_with fail
                    go_roundw
                    case rel => exact ⟨t + 1, by omega, by go_num, by rw [HST.out]; first | rfl | (congr 1; omega) | (simp; omega), ⟨HBV.out⟩⟩
                    case measure => simp only [intOf]; omega
                  | false =>
                    rw [if_neg (by rw [hb]; decide)] at hst
                    have HST := hide hst
                    clear hst hle hle2 hZ
                    go_wp2_with fail
                    go_roundw
                    case rel => exact ⟨t + 1, by omega, by go_num, by rw [HST.out]; first | rfl | (congr 1; omega) | (simp; omega), ⟨HBV.out⟩⟩
                    case measure => simp only [intOf]; omega
                · have hke : t = y.size := by omega
                  subst hke
                  have kt1 : ¬ (y.size : Int) < (y.size : Int) := by omega
                  have hfin : nl ((bts y).take y.size) = c := by rw [List.take_of_length_le (by rw [bts_size]; exact Nat.le_refl _)]; exact HYC.out
                  rw [hfin]
                  clear hfin htl
                  go_wp2_with fail
                  go_roundw
                  case rel => exact ⟨j + 1, by omega, by go_num, by rw [HMN.out], ⟨HBV.out⟩⟩
                  case measure => simp only [intOf]; omega
            · have hke : j = 2 := by omega
              have kj1 : ¬ (j : Int) < 2 := by omega
              have hfin : E + (if j = 0 then 0 else if j = 1 then c1 else c1 + c2) = E + (c1 + c2) := by rw [hke]; rfl
              rw [hfin]
              have e5 := cellW HE5G.out HBW.out
              have hx5 := HNB.out.2.2.1
              dsimp only at hx5
              obtain ⟨F, hF⟩ : ∃ z, E + (c1 + c2) = z := ⟨_, rfl⟩
              have hF9 : F ≤ 200000010000000 := by omega
              rw [hF]
              have HF := hide hF
              obtain ⟨r, hr⟩ : ∃ z, x5.length = z := ⟨_, rfl⟩
              rw [hr] at e5 hx5
              have HR := hide hr
              clear hfin hF hr hj
              go_wp2_with fail
              go_loopw [9, 16, 80] (fun v9 _ v80 W => ∃ a : Nat, a ≤ r ∧ v80 = .int .i64 (a : Int) ∧ v9 = .int .i64 (F + attC (x5.take a) : Nat) ∧ Aside0 (Below wG.heap.size wG W)) (fun _ _ v80 _ => r - (intOf v80).toNat)
              case atStart => exact ⟨0, Nat.zero_le _, rfl, rfl, ⟨HBW.out⟩⟩
              case round =>
                clear HBW e5
                obtain ⟨a, ha, rfl, rfl, hbv⟩ := hrel
                have HBV := hide hbv.out
                clear hbv
                by_cases hal : a < r
                · have ka1 : (a : Int) < (r : Int) := by omega
                  have hax : a < x5.length := by rw [HR.out]; exact hal
                  obtain ⟨bx, hA, u0, u1⟩ := at_T33 (Kd.C_below HGXG.out HBV.out) (a : Int) (by omega) (by omega)
                  rw [Int.toNat_natCast] at u0 u1
                  subst hA
                  have hst := attC_take x5 a hax
                  have hel : (rd_T33 x5 (a : Int)).f0.size ≤ 1048576 ∧ (rd_T33 x5 (a : Int)).f1.size ≤ 1048576 := by
                    have e : rd_T33 x5 (a : Int) = x5[a] := by
                      unfold rd_T33
                      rw [Int.toNat_natCast, List.getD_eq_getElem?_getD, List.getElem?_eq_getElem hax]
                      rfl
                    rw [e]
                    exact HNB.out.2.2.2 _ (List.getElem_mem _)
                  have hbo : attC (x5.take a) ≤ 4398046511104 := by
                    have h1 := attC_bound 1048576 (x5.take a) (fun z hz => HNB.out.2.2.2 z (List.mem_of_mem_take hz))
                    have h2 : (x5.take a).length * (2 * 1048576) ≤ 1048576 * (2 * 1048576) := Nat.mul_le_mul (by rw [List.length_take]; omega) (Nat.le_refl _)
                    omega
                  obtain ⟨⟨g0, g1⟩, hg⟩ : ∃ z, rd_T33 x5 (a : Int) = z := ⟨_, rfl⟩
                  rw [hg] at u0 u1 hst hel
                  dsimp only at u0 u1 hst hel
                  obtain ⟨Z, hZ⟩ : ∃ z, attC (x5.take a) = z := ⟨_, rfl⟩
                  rw [hZ] at hst hbo ⊢
                  have HST := hide hst
                  clear hst hg hZ
                  have hXb := heap_alloc_new wr (.cells #[.string g0, .string g1] 33)
                  have hba := below_alloc (Below.refl wr.heap.size wr) (.cells #[.string g0, .string g1] 33)
                  have y0 := cell_of_row _ _ 0 _ _ _ hXb
                  have y1 := cell_of_row _ _ 1 _ _ _ hXb
                  have HBN := hide (below_step HBV.out hba)
                  have kw1 : IntKind.i64.wrap (((F + Z : Nat) : Int) + (g0.size : Int)) = ((F + Z : Nat) : Int) + (g0.size : Int) := IntWalk.i64_in _ (by omega)
                  have kw2 : IntKind.i64.wrap (((F + Z : Nat) : Int) + (g0.size : Int) + (g1.size : Int)) = ((F + Z : Nat) : Int) + (g0.size : Int) + (g1.size : Int) := IntWalk.i64_in _ (by omega)
                  have kw3 : IntKind.i64.wrap ((F : Int) + (Z : Int) + (g0.size : Int)) = (F : Int) + (Z : Int) + (g0.size : Int) := IntWalk.i64_in _ (by omega)
                  have kw4 : IntKind.i64.wrap ((F : Int) + (Z : Int) + (g0.size : Int) + (g1.size : Int)) = (F : Int) + (Z : Int) + (g0.size : Int) + (g1.size : Int) := IntWalk.i64_in _ (by omega)
                  clear hXb hba hel hbo
                  go_wp2_with fail
                  go_roundw
                  case rel => exact ⟨a + 1, by omega, by go_num, by rw [HST.out]; first | rfl | (congr 1; omega) | (simp; omega), ⟨HBN.out⟩⟩
                  case measure => simp only [intOf]; omega
                · have hke : a = r := by omega
                  subst hke
                  have ka1 : ¬ (a : Int) < (a : Int) := by omega
                  have hfin : F + attC (x5.take a) = endN l (k + 1) := by
                    rw [HES.out, ← HF.out, List.take_of_length_le (by rw [HR.out]; exact Nat.le_refl _)]
                    unfold endC
                    dsimp only
                    rw [hc1, hc2]
                    omega
                  rw [hfin]
                  have HBO := hide (HBG.out.trans (HBV.out.mono HBG.out.size))
                  clear hfin hal
                  go_wp2_with fail
                  go_roundw
                  case rel => exact ⟨k + 1, by omega, by omega, by go_num, rfl, ⟨HBO.out⟩⟩
                  case measure => simp only [intOf]; omega
        · have hz := HEZ.out k (by rw [HN.out]; exact hkn)
          have hli := HLINES.out k hkn hk30 hlt
          have hen := HEB.out k hkn
          obtain ⟨E, hE⟩ : ∃ z, endN l k = z := ⟨_, rfl⟩
          rw [hE] at hz hen ⊢
          clear hE
          have HLI := hide (fun (h : E = 0) => hli (hz h))
          have ha := HBR.out
          have a0 := cellW (cell_of_row _ _ 0 _ _ _ HP.out) ha
          have a1 := cellW (cell_of_row _ _ 1 _ _ _ HP.out) ha
          have a2 := cellW (cell_of_row _ _ 2 _ _ _ HP.out) ha
          have a3 := cellW (cell_of_row _ _ 3 _ _ _ HP.out) ha
          have a4 := cellW (cell_of_row _ _ 4 _ _ _ HP.out) ha
          have a5 := cellW (cell_of_row _ _ 5 _ _ _ HP.out) ha
          clear ha hz hli
          by_cases h1 : k < n
          · have h3 : (k : Int) < (n : Int) := by omega
            have h4 : ¬ (k : Int) < 30 := by omega
            clear hlt hk30 hkn h1
            go_upto_region 26 with fail
            go_cut [102] from 94 to 102 (fun v wx => v = .bool false ∧ Below w2.heap.size w2 wx)
            case first =>
              cases hE0 : ((E : Int) == 0) with
              | false =>
                go_wp2_with fail
                go_meet
                exact ⟨rfl, HBR.out⟩
              | true =>
                have hz : E = 0 := by have := beq_iff_eq.1 hE0; omega
                have hli := HLI.out hz
                have hln : nl (showR ⟨p0, p1, p2, p3, p4, p5⟩ []) = LN := by rw [← HSB.out]; exact HLN.out
                rw [hln] at hli
                have HC := hide (c_count _ _ wr (HTP.out.below HBR.out) HSP.out)
                obtain ⟨cn, hcn⟩ : ∃ z, cntT ⟨p0, p1, p2, p3, p4, p5⟩ = z := ⟨_, rfl⟩
                rw [hcn] at HC hli hpc
                have kw : IntKind.i64.wrap ((cn : Int) - 1) = (cn : Int) - 1 := IntWalk.i64_in _ (by omega)
                have kb : ((LN : Int) != (cn : Int) - 1) = false := by rw [show (LN : Int) = (cn : Int) - 1 from by omega]; simp
                clear hz hli hln hcn
                go_wp2_with (go_at_call 11; (with_reducible refine HC.out.mono ?_); rintro e w' ⟨rfl, hb⟩; have HBB := hide (below_step HBR.out hb); clear hb)
                go_meet
                exact ⟨rfl, HBB.out⟩
            case rest =>
              obtain ⟨rfl, hbc⟩ := hcut
              have HBC := hide hbc
              clear hbc a0 a1 a2 a3 a4 a5
              have HPQ := hide (fun W (h : Below wc.heap.size wc W) => c_same _ _ _ _ W ((HTP.out.below HBC.out).below h) ((HTQ.out.below HBC.out).below h) HSP.out)
              have HQP := hide (fun W (h : Below wc.heap.size wc W) => c_same _ _ _ _ W ((HTQ.out.below HBC.out).below h) ((HTP.out.below HBC.out).below h) HSQ.out)
              have HSQ2 := hide (fun W (h : Below wc.heap.size wc W) => c_show _ _ W ((HTQ.out.below HBC.out).below h) HSQ.out)
              rw [eqT_symm ⟨q0, q1, q2, q3, q4, q5⟩ ⟨p0, p1, p2, p3, p4, p5⟩] at HQP
              obtain ⟨b, hb⟩ : ∃ b, eqT ⟨p0, p1, p2, p3, p4, p5⟩ ⟨q0, q1, q2, q3, q4, q5⟩ = b := ⟨_, rfl⟩
              rw [hb] at HPQ HQP
              have hPc := (HBC.out.block _ (blk_lt HP.out)).trans HP.out
              have hQc := (HBC.out.block _ (blk_lt HQ.out)).trans HQ.out
              have HSS := hide (fun (W : World) (h : Below wc.heap.size wc W) => (⟨cellW (cell_of_row _ _ 0 _ _ _ hPc) h, cellW (cell_of_row _ _ 1 _ _ _ hPc) h, cellW (cell_of_row _ _ 2 _ _ _ hPc) h, cellW (cell_of_row _ _ 3 _ _ _ hPc) h, cellW (cell_of_row _ _ 4 _ _ _ hPc) h, cellW (cell_of_row _ _ 5 _ _ _ hPc) h, cellW (cell_of_row _ _ 0 _ _ _ hQc) h, cellW (cell_of_row _ _ 1 _ _ _ hQc) h, cellW (cell_of_row _ _ 2 _ _ _ hQc) h, cellW (cell_of_row _ _ 3 _ _ _ hQc) h, cellW (cell_of_row _ _ 4 _ _ _ hQc) h, cellW (cell_of_row _ _ 5 _ _ _ hQc) h⟩ : W.cell? ⟨X, 0, none⟩ = some (.int .i64 p0) ∧ W.cell? ⟨X, 1, none⟩ = some (.int .i64 p1) ∧ W.cell? ⟨X, 2, none⟩ = some (.string p2) ∧ W.cell? ⟨X, 3, none⟩ = some (.slice A3 p3.length c3) ∧ W.cell? ⟨X, 4, none⟩ = some (.string p4) ∧ W.cell? ⟨X, 5, none⟩ = some (.slice A5 p5.length c5) ∧ W.cell? ⟨(X + 1), 0, none⟩ = some (.int .i64 q0) ∧ W.cell? ⟨(X + 1), 1, none⟩ = some (.int .i64 q1) ∧ W.cell? ⟨(X + 1), 2, none⟩ = some (.string q2) ∧ W.cell? ⟨(X + 1), 3, none⟩ = some (.slice B3 q3.length d3) ∧ W.cell? ⟨(X + 1), 4, none⟩ = some (.string q4) ∧ W.cell? ⟨(X + 1), 5, none⟩ = some (.slice B5 q5.length d5)))
              clear hPc hQc
              go_upto_region 28 with fail
              cases b with
              | true =>
                have hS : (⟨(showR ⟨q0, q1, q2, q3, q4, q5⟩ []).toArray⟩ : ByteArray) = S := by rw [← eqT_id _ _ hb]; exact HSH.out
                rw [hS] at HSQ2
                clear hS hb
                refine wp_region_held_drew (S := fun W => W.cell? ⟨X, 0, none⟩ = some (.int .i64 p0) ∧ W.cell? ⟨X, 1, none⟩ = some (.int .i64 p1) ∧ W.cell? ⟨X, 2, none⟩ = some (.string p2) ∧ W.cell? ⟨X, 3, none⟩ = some (.slice A3 p3.length c3) ∧ W.cell? ⟨X, 4, none⟩ = some (.string p4) ∧ W.cell? ⟨X, 5, none⟩ = some (.slice A5 p5.length c5) ∧ W.cell? ⟨(X + 1), 0, none⟩ = some (.int .i64 q0) ∧ W.cell? ⟨(X + 1), 1, none⟩ = some (.int .i64 q1) ∧ W.cell? ⟨(X + 1), 2, none⟩ = some (.string q2) ∧ W.cell? ⟨(X + 1), 3, none⟩ = some (.slice B3 q3.length d3) ∧ W.cell? ⟨(X + 1), 4, none⟩ = some (.string q4) ∧ W.cell? ⟨(X + 1), 5, none⟩ = some (.slice B5 q5.length d5)) (by kernel_rfl) (HSS.out _ (Below.drew (Below.refl _ _))) (fun hHeld => ?_)
                have b0 := Below.drew (Below.refl wc.heap.size wc)
                generalize wc.drew = wd at b0 hHeld ⊢
                refine wpAnyH_take (i := 0) (oi := ?o0x1) (v := ?v0x1) ?ho0x1 (by kernel_rfl) (by kernel_rfl) (by kernel_rfl) ?hQ0x1 (Or.inl ⟨?hw0x1, ?hy0x1⟩) (by assumption) ?_
                case ho0x1 => (simp only [List.getElem?_toArray, List.getElem?_cons_succ, List.getElem?_cons_zero]; try rfl)
                case hQ0x1 => exact fun _ _ _ h => h
                case hw0x1 => rfl
                case hy0x1 => (intro w hSw; (try dsimp only at hSw); go_simp; (first | done | (with_reducible rfl)))
                (try simp only [Act.put, List.setIfInBounds_toArray, List.set_cons_zero, List.set_cons_succ])
                refine wpAnyH_take (i := 1) (oi := ?o1x2) (v := ?v1x2) ?ho1x2 (by kernel_rfl) (by kernel_rfl) (by kernel_rfl) ?hQ1x2 (Or.inl ⟨?hw1x2, ?hy1x2⟩) (by assumption) ?_
                case ho1x2 => (simp only [List.getElem?_toArray, List.getElem?_cons_succ, List.getElem?_cons_zero]; try rfl)
                case hQ1x2 => exact fun _ _ _ h => h
                case hw1x2 => rfl
                case hy1x2 => (intro w hSw; (try dsimp only at hSw); go_simp; (first | done | (with_reducible rfl)))
                (try simp only [Act.put, List.setIfInBounds_toArray, List.set_cons_zero, List.set_cons_succ])
                refine wpAnyH_ready (rs := [2]) (by kernel_rfl) (by simp) ?_
                refine (AllReadyH.cons (i := 2) (o := ?o2y3) ?ho2y3 (fun K hK => ?_) AllReadyH.nil)
                case ho2y3 => (simp only [List.getElem?_toArray, List.getElem?_cons_succ, List.getElem?_cons_zero]; try rfl)
                go_simp
                go_at_call 12
                (with_reducible refine (HPQ.out _ b0).mono ?_)
                rintro e wq3 ⟨rfl, bs3⟩
                have bq3 := below_step b0 bs3
                clear bs3
                refine hK.out _ _ (HSS.out _ bq3) (fun _ => ?_)
                clear hK K
                (try simp only [Act.put, List.setIfInBounds_toArray, List.set_cons_zero, List.set_cons_succ])
                refine wpAnyH_take (i := 3) (oi := ?o3x4) (v := ?v3x4) ?ho3x4 (by kernel_rfl) (by kernel_rfl) (by kernel_rfl) ?hQ3x4 (Or.inl ⟨?hw3x4, ?hy3x4⟩) (by assumption) ?_
                case ho3x4 => (simp only [List.getElem?_toArray, List.getElem?_cons_succ, List.getElem?_cons_zero]; try rfl)
                case hQ3x4 => exact fun _ _ _ h => h
                case hw3x4 => rfl
                case hy3x4 => (intro w hSw; (try dsimp only at hSw); go_simp; (first | done | (with_reducible rfl)))
                (try simp only [Act.put, List.setIfInBounds_toArray, List.set_cons_zero, List.set_cons_succ])
                refine wpAnyH_take (i := 4) (oi := ?o4x5) (v := ?v4x5) ?ho4x5 (by kernel_rfl) (by kernel_rfl) (by kernel_rfl) ?hQ4x5 (Or.inl ⟨?hw4x5, ?hy4x5⟩) (by assumption) ?_
                case ho4x5 => (simp only [List.getElem?_toArray, List.getElem?_cons_succ, List.getElem?_cons_zero]; try rfl)
                case hQ4x5 => exact fun _ _ _ h => h
                case hw4x5 => rfl
                case hy4x5 => (intro w hSw; (try dsimp only at hSw); go_simp; (first | done | (with_reducible rfl)))
                (try simp only [Act.put, List.setIfInBounds_toArray, List.set_cons_zero, List.set_cons_succ])
                refine wpAnyH_take (i := 5) (oi := ?o5x6) (v := ?v5x6) ?ho5x6 (by kernel_rfl) (by kernel_rfl) (by kernel_rfl) ?hQ5x6 (Or.inl ⟨?hw5x6, ?hy5x6⟩) (by assumption) ?_
                case ho5x6 => (simp only [List.getElem?_toArray, List.getElem?_cons_succ, List.getElem?_cons_zero]; try rfl)
                case hQ5x6 => exact fun _ _ _ h => h
                case hw5x6 => rfl
                case hy5x6 => (intro w hSw; (try dsimp only at hSw); go_simp; (first | done | (with_reducible rfl)))
                (try simp only [Act.put, List.setIfInBounds_toArray, List.set_cons_zero, List.set_cons_succ])
                refine wpAnyH_take (i := 6) (oi := ?o6x7) (v := ?v6x7) ?ho6x7 (by kernel_rfl) (by kernel_rfl) (by kernel_rfl) ?hQ6x7 (Or.inl ⟨?hw6x7, ?hy6x7⟩) (by assumption) ?_
                case ho6x7 => (simp only [List.getElem?_toArray, List.getElem?_cons_succ, List.getElem?_cons_zero]; try rfl)
                case hQ6x7 => exact fun _ _ _ h => h
                case hw6x7 => rfl
                case hy6x7 => (intro w hSw; (try dsimp only at hSw); go_simp; (first | done | (with_reducible rfl)))
                (try simp only [Act.put, List.setIfInBounds_toArray, List.set_cons_zero, List.set_cons_succ])
                refine wpAnyH_ready (rs := [7]) (by kernel_rfl) (by simp) ?_
                refine (AllReadyH.cons (i := 7) (o := ?o7y8) ?ho7y8 (fun K hK => ?_) AllReadyH.nil)
                case ho7y8 => (simp only [List.getElem?_toArray, List.getElem?_cons_succ, List.getElem?_cons_zero]; try rfl)
                go_simp
                go_at_call 10
                (with_reducible refine (HSQ2.out _ bq3).mono ?_)
                rintro e wq8 ⟨rfl, bs8⟩
                have bq8 := below_step bq3 bs8
                clear bs8
                refine hK.out _ _ (HSS.out _ bq8) (fun _ => ?_)
                clear hK K
                (try simp only [Act.put, List.setIfInBounds_toArray, List.set_cons_zero, List.set_cons_succ])
                refine wpAnyH_take (i := 8) (oi := ?o8x9) (v := ?v8x9) ?ho8x9 (by kernel_rfl) (by kernel_rfl) (by kernel_rfl) ?hQ8x9 (Or.inl ⟨?hw8x9, ?hy8x9⟩) (by assumption) ?_
                case ho8x9 => (simp only [List.getElem?_toArray, List.getElem?_cons_succ, List.getElem?_cons_zero]; try rfl)
                case hQ8x9 => exact fun _ _ _ h => h
                case hw8x9 => rfl
                case hy8x9 => (intro w hSw; (try dsimp only at hSw); go_simp; (first | done | (with_reducible rfl)))
                (try simp only [Act.put, List.setIfInBounds_toArray, List.set_cons_zero, List.set_cons_succ])
                refine wpAnyH_take (i := 9) (oi := ?o9x10) (v := ?v9x10) ?ho9x10 (by kernel_rfl) (by kernel_rfl) (by kernel_rfl) ?hQ9x10 (Or.inl ⟨?hw9x10, ?hy9x10⟩) (by assumption) ?_
                case ho9x10 => (simp only [List.getElem?_toArray, List.getElem?_cons_succ, List.getElem?_cons_zero]; try rfl)
                case hQ9x10 => exact fun _ _ _ h => h
                case hw9x10 => rfl
                case hy9x10 => (intro w hSw; (try dsimp only at hSw); go_simp; (first | done | (with_reducible rfl)))
                (try simp only [Act.put, List.setIfInBounds_toArray, List.set_cons_zero, List.set_cons_succ])
                refine wpAnyH_take (i := 10) (oi := ?o10x11) (v := ?v10x11) ?ho10x11 (by kernel_rfl) (by kernel_rfl) (by kernel_rfl) ?hQ10x11 (Or.inl ⟨?hw10x11, ?hy10x11⟩) (by assumption) ?_
                case ho10x11 => (simp only [List.getElem?_toArray, List.getElem?_cons_succ, List.getElem?_cons_zero]; try rfl)
                case hQ10x11 => exact fun _ _ _ h => h
                case hw10x11 => rfl
                case hy10x11 => (intro w hSw; (try dsimp only at hSw); go_simp; (first | done | (with_reducible rfl)))
                (try simp only [Act.put, List.setIfInBounds_toArray, List.set_cons_zero, List.set_cons_succ])
                refine wpAnyH_take (i := 11) (oi := ?o11x12) (v := ?v11x12) ?ho11x12 (by kernel_rfl) (by kernel_rfl) (by kernel_rfl) ?hQ11x12 (Or.inl ⟨?hw11x12, ?hy11x12⟩) (by assumption) ?_
                case ho11x12 => (simp only [List.getElem?_toArray, List.getElem?_cons_succ, List.getElem?_cons_zero]; try rfl)
                case hQ11x12 => exact fun _ _ _ h => h
                case hw11x12 => rfl
                case hy11x12 => (intro w hSw; (try dsimp only at hSw); go_simp; (first | done | (with_reducible rfl)))
                (try simp only [Act.put, List.setIfInBounds_toArray, List.set_cons_zero, List.set_cons_succ])
                refine wpAnyH_take (i := 12) (oi := ?o12x13) (v := ?v12x13) ?ho12x13 (by kernel_rfl) (by kernel_rfl) (by kernel_rfl) ?hQ12x13 (Or.inl ⟨?hw12x13, ?hy12x13⟩) (by assumption) ?_
                case ho12x13 => (simp only [List.getElem?_toArray, List.getElem?_cons_succ, List.getElem?_cons_zero]; try rfl)
                case hQ12x13 => exact fun _ _ _ h => h
                case hw12x13 => rfl
                case hy12x13 => (intro w hSw; (try dsimp only at hSw); go_simp; (first | done | (with_reducible rfl)))
                (try simp only [Act.put, List.setIfInBounds_toArray, List.set_cons_zero, List.set_cons_succ])
                refine wpAnyH_take (i := 14) (oi := ?o14x14) (v := ?v14x14) ?ho14x14 (by kernel_rfl) (by kernel_rfl) (by kernel_rfl) ?hQ14x14 (Or.inl ⟨?hw14x14, ?hy14x14⟩) (by assumption) ?_
                case ho14x14 => (simp only [List.getElem?_toArray, List.getElem?_cons_succ, List.getElem?_cons_zero]; try rfl)
                case hQ14x14 => exact fun _ _ _ h => h
                case hw14x14 => rfl
                case hy14x14 => (intro w hSw; (try dsimp only at hSw); go_simp; (first | done | (with_reducible rfl)))
                (try simp only [Act.put, List.setIfInBounds_toArray, List.set_cons_zero, List.set_cons_succ])
                refine wpAnyH_take (i := 15) (oi := ?o15x15) (v := ?v15x15) ?ho15x15 (by kernel_rfl) (by kernel_rfl) (by kernel_rfl) ?hQ15x15 (Or.inl ⟨?hw15x15, ?hy15x15⟩) (by assumption) ?_
                case ho15x15 => (simp only [List.getElem?_toArray, List.getElem?_cons_succ, List.getElem?_cons_zero]; try rfl)
                case hQ15x15 => exact fun _ _ _ h => h
                case hw15x15 => rfl
                case hy15x15 => (intro w hSw; (try dsimp only at hSw); go_simp; (first | done | (with_reducible rfl)))
                (try simp only [Act.put, List.setIfInBounds_toArray, List.set_cons_zero, List.set_cons_succ])
                refine wpAnyH_ready (rs := [13]) (by kernel_rfl) (by simp) ?_
                refine (AllReadyH.cons (i := 13) (o := ?o13y16) ?ho13y16 (fun K hK => ?_) AllReadyH.nil)
                case ho13y16 => (simp only [List.getElem?_toArray, List.getElem?_cons_succ, List.getElem?_cons_zero]; try rfl)
                go_simp
                go_at_call 12
                (with_reducible refine (HPQ.out _ bq8).mono ?_)
                rintro e wq16 ⟨rfl, bs16⟩
                have bq16 := below_step bq8 bs16
                clear bs16
                refine hK.out _ _ (HSS.out _ bq16) (fun _ => ?_)
                clear hK K
                (try simp only [Act.put, List.setIfInBounds_toArray, List.set_cons_zero, List.set_cons_succ])
                refine wpAnyH_ready (rs := [16]) (by kernel_rfl) (by simp) ?_
                refine (AllReadyH.cons (i := 16) (o := ?o16y17) ?ho16y17 (fun K hK => ?_) AllReadyH.nil)
                case ho16y17 => (simp only [List.getElem?_toArray, List.getElem?_cons_succ, List.getElem?_cons_zero]; try rfl)
                go_simp
                go_at_call 12
                (with_reducible refine (HQP.out _ bq16).mono ?_)
                rintro e wq17 ⟨rfl, bs17⟩
                have bq17 := below_step bq16 bs17
                clear bs17
                refine hK.out _ _ (HSS.out _ bq17) (fun _ => ?_)
                clear hK K
                (try simp only [Act.put, List.setIfInBounds_toArray, List.set_cons_zero, List.set_cons_succ])
                refine wpAnyH_take (i := 17) (oi := ?o17x18) (v := ?v17x18) ?ho17x18 (by kernel_rfl) (by kernel_rfl) (by kernel_rfl) ?hQ17x18 (Or.inl ⟨?hw17x18, ?hy17x18⟩) (by assumption) ?_
                case ho17x18 => (simp only [List.getElem?_toArray, List.getElem?_cons_succ, List.getElem?_cons_zero]; try rfl)
                case hQ17x18 => exact fun _ _ _ h => h
                case hw17x18 => rfl
                case hy17x18 => (intro w hSw; (try dsimp only at hSw); go_simp; (first | done | (with_reducible rfl)))
                (try simp only [Act.put, List.setIfInBounds_toArray, List.set_cons_zero, List.set_cons_succ])
                refine wpAnyH_take (i := 18) (oi := ?o18x19) (v := ?v18x19) ?ho18x19 (by kernel_rfl) (by kernel_rfl) (by kernel_rfl) ?hQ18x19 (Or.inl ⟨?hw18x19, ?hy18x19⟩) (by assumption) ?_
                case ho18x19 => (simp only [List.getElem?_toArray, List.getElem?_cons_succ, List.getElem?_cons_zero]; try rfl)
                case hQ18x19 => exact fun _ _ _ h => h
                case hw18x19 => rfl
                case hy18x19 => (intro w hSw; (try dsimp only at hSw); go_simp; (first | done | (with_reducible rfl)))
                (try simp only [Act.put, List.setIfInBounds_toArray, List.set_cons_zero, List.set_cons_succ])
                refine wpAnyH_take (i := 19) (oi := ?o19x20) (v := ?v19x20) ?ho19x20 (by kernel_rfl) (by kernel_rfl) (by kernel_rfl) ?hQ19x20 (Or.inl ⟨?hw19x20, ?hy19x20⟩) (by assumption) ?_
                case ho19x20 => (simp only [List.getElem?_toArray, List.getElem?_cons_succ, List.getElem?_cons_zero]; try rfl)
                case hQ19x20 => exact fun _ _ _ h => h
                case hw19x20 => rfl
                case hy19x20 => (intro w hSw; (try dsimp only at hSw); go_simp; (first | done | (with_reducible rfl)))
                (try simp only [Act.put, List.setIfInBounds_toArray, List.set_cons_zero, List.set_cons_succ])
                refine wpAnyH_ready (rs := [20]) (by kernel_rfl) (by simp) ?_
                refine (AllReadyH.cons (i := 20) (o := ?o20y21) ?ho20y21 (fun K hK => ?_) AllReadyH.nil)
                case ho20y21 => (simp only [List.getElem?_toArray, List.getElem?_cons_succ, List.getElem?_cons_zero]; try rfl)
                go_simp
                go_at_call 13
                (with_reducible refine (known _).mono ?_)
                rintro e wq21 ⟨rfl, bs21⟩
                have bq21 := below_step bq17 bs21
                clear bs21
                refine hK.out _ _ (HSS.out _ bq21) (fun _ => ?_)
                clear hK K
                (try simp only [Act.put, List.setIfInBounds_toArray, List.set_cons_zero, List.set_cons_succ])
                refine wpAnyH_take (i := 21) (oi := ?o21x22) (v := ?v21x22) ?ho21x22 (by kernel_rfl) (by kernel_rfl) (by kernel_rfl) ?hQ21x22 (Or.inl ⟨?hw21x22, ?hy21x22⟩) (by assumption) ?_
                case ho21x22 => (simp only [List.getElem?_toArray, List.getElem?_cons_succ, List.getElem?_cons_zero]; try rfl)
                case hQ21x22 => exact fun _ _ _ h => h
                case hw21x22 => rfl
                case hy21x22 => (intro w hSw; (try dsimp only at hSw); go_simp; (first | done | (with_reducible rfl)))
                (try simp only [Act.put, List.setIfInBounds_toArray, List.set_cons_zero, List.set_cons_succ])
                refine wpAnyH_ready (rs := [22]) (by kernel_rfl) (by simp) ?_
                refine (AllReadyH.cons (i := 22) (o := ?o22y23) ?ho22y23 (fun K hK => ?_) AllReadyH.nil)
                case ho22y23 => (simp only [List.getElem?_toArray, List.getElem?_cons_succ, List.getElem?_cons_zero]; try rfl)
                go_simp
                refine hK.out _ _ (HSS.out _ bq21) (fun _ => ?_)
                clear hK K
                (try simp only [Act.put, List.setIfInBounds_toArray, List.set_cons_zero, List.set_cons_succ])
                refine wpAnyH_done (by kernel_rfl) ?_ _
                have HBN := hide bq21
                go_wp2_with fail
                go_ret
                exact ⟨rfl, below_step HB2.out (below_step HBC.out HBN.out)⟩
              | false =>
                clear hb
                refine wp_region_held_drew (S := fun W => W.cell? ⟨X, 0, none⟩ = some (.int .i64 p0) ∧ W.cell? ⟨X, 1, none⟩ = some (.int .i64 p1) ∧ W.cell? ⟨X, 2, none⟩ = some (.string p2) ∧ W.cell? ⟨X, 3, none⟩ = some (.slice A3 p3.length c3) ∧ W.cell? ⟨X, 4, none⟩ = some (.string p4) ∧ W.cell? ⟨X, 5, none⟩ = some (.slice A5 p5.length c5) ∧ W.cell? ⟨(X + 1), 0, none⟩ = some (.int .i64 q0) ∧ W.cell? ⟨(X + 1), 1, none⟩ = some (.int .i64 q1) ∧ W.cell? ⟨(X + 1), 2, none⟩ = some (.string q2) ∧ W.cell? ⟨(X + 1), 3, none⟩ = some (.slice B3 q3.length d3) ∧ W.cell? ⟨(X + 1), 4, none⟩ = some (.string q4) ∧ W.cell? ⟨(X + 1), 5, none⟩ = some (.slice B5 q5.length d5)) (by kernel_rfl) (HSS.out _ (Below.drew (Below.refl _ _))) (fun hHeld => ?_)
                have b0 := Below.drew (Below.refl wc.heap.size wc)
                generalize wc.drew = wd at b0 hHeld ⊢
                refine wpAnyH_take (i := 0) (oi := ?o0x24) (v := ?v0x24) ?ho0x24 (by kernel_rfl) (by kernel_rfl) (by kernel_rfl) ?hQ0x24 (Or.inl ⟨?hw0x24, ?hy0x24⟩) (by assumption) ?_
                case ho0x24 => (simp only [List.getElem?_toArray, List.getElem?_cons_succ, List.getElem?_cons_zero]; try rfl)
                case hQ0x24 => exact fun _ _ _ h => h
                case hw0x24 => rfl
                case hy0x24 => (intro w hSw; (try dsimp only at hSw); go_simp; (first | done | (with_reducible rfl)))
                (try simp only [Act.put, List.setIfInBounds_toArray, List.set_cons_zero, List.set_cons_succ])
                refine wpAnyH_take (i := 1) (oi := ?o1x25) (v := ?v1x25) ?ho1x25 (by kernel_rfl) (by kernel_rfl) (by kernel_rfl) ?hQ1x25 (Or.inl ⟨?hw1x25, ?hy1x25⟩) (by assumption) ?_
                case ho1x25 => (simp only [List.getElem?_toArray, List.getElem?_cons_succ, List.getElem?_cons_zero]; try rfl)
                case hQ1x25 => exact fun _ _ _ h => h
                case hw1x25 => rfl
                case hy1x25 => (intro w hSw; (try dsimp only at hSw); go_simp; (first | done | (with_reducible rfl)))
                (try simp only [Act.put, List.setIfInBounds_toArray, List.set_cons_zero, List.set_cons_succ])
                refine wpAnyH_ready (rs := [2]) (by kernel_rfl) (by simp) ?_
                refine (AllReadyH.cons (i := 2) (o := ?o2y26) ?ho2y26 (fun K hK => ?_) AllReadyH.nil)
                case ho2y26 => (simp only [List.getElem?_toArray, List.getElem?_cons_succ, List.getElem?_cons_zero]; try rfl)
                go_simp
                go_at_call 12
                (with_reducible refine (HPQ.out _ b0).mono ?_)
                rintro e wq26 ⟨rfl, bs26⟩
                have bq26 := below_step b0 bs26
                clear bs26
                refine hK.out _ _ (HSS.out _ bq26) (fun _ => ?_)
                clear hK K
                (try simp only [Act.put, List.setIfInBounds_toArray, List.set_cons_zero, List.set_cons_succ])
                refine wpAnyH_take (i := 3) (oi := ?o3x27) (v := ?v3x27) ?ho3x27 (by kernel_rfl) (by kernel_rfl) (by kernel_rfl) ?hQ3x27 (Or.inl ⟨?hw3x27, ?hy3x27⟩) (by assumption) ?_
                case ho3x27 => (simp only [List.getElem?_toArray, List.getElem?_cons_succ, List.getElem?_cons_zero]; try rfl)
                case hQ3x27 => exact fun _ _ _ h => h
                case hw3x27 => rfl
                case hy3x27 => (intro w hSw; (try dsimp only at hSw); go_simp; (first | done | (with_reducible rfl)))
                (try simp only [Act.put, List.setIfInBounds_toArray, List.set_cons_zero, List.set_cons_succ])
                refine wpAnyH_take (i := 4) (oi := ?o4x28) (v := ?v4x28) ?ho4x28 (by kernel_rfl) (by kernel_rfl) (by kernel_rfl) ?hQ4x28 (Or.inl ⟨?hw4x28, ?hy4x28⟩) (by assumption) ?_
                case ho4x28 => (simp only [List.getElem?_toArray, List.getElem?_cons_succ, List.getElem?_cons_zero]; try rfl)
                case hQ4x28 => exact fun _ _ _ h => h
                case hw4x28 => rfl
                case hy4x28 => (intro w hSw; (try dsimp only at hSw); go_simp; (first | done | (with_reducible rfl)))
                (try simp only [Act.put, List.setIfInBounds_toArray, List.set_cons_zero, List.set_cons_succ])
                refine wpAnyH_ready (rs := [5, 6]) (by kernel_rfl) (by simp) ?_
                refine (AllReadyH.cons (i := 5) (o := ?o5y29) ?ho5y29 (fun K hK => ?_) (AllReadyH.cons (i := 6) (o := ?o6y29) ?ho6y29 (fun K hK => ?_) AllReadyH.nil))
                case ho5y29 => (simp only [List.getElem?_toArray, List.getElem?_cons_succ, List.getElem?_cons_zero]; try rfl)
                case ho6y29 => (simp only [List.getElem?_toArray, List.getElem?_cons_succ, List.getElem?_cons_zero]; try rfl)
                · go_simp
                  refine hK.out _ _ (HSS.out _ bq26) (fun _ => ?_)
                  clear hK K
                  (try simp only [Act.put, List.setIfInBounds_toArray, List.set_cons_zero, List.set_cons_succ])
                  refine wpAnyH_ready (rs := [6]) (by kernel_rfl) (by simp) ?_
                  refine (AllReadyH.cons (i := 6) (o := ?o6y30) ?ho6y30 (fun K hK => ?_) AllReadyH.nil)
                  case ho6y30 => (simp only [List.getElem?_toArray, List.getElem?_cons_succ, List.getElem?_cons_zero]; try rfl)
                  go_simp
                  refine hK.out _ _ (HSS.out _ bq26) (fun _ => ?_)
                  clear hK K
                  (try simp only [Act.put, List.setIfInBounds_toArray, List.set_cons_zero, List.set_cons_succ])
                  refine wpAnyH_ready (rs := [7]) (by kernel_rfl) (by simp) ?_
                  refine (AllReadyH.cons (i := 7) (o := ?o7y31) ?ho7y31 (fun K hK => ?_) AllReadyH.nil)
                  case ho7y31 => (simp only [List.getElem?_toArray, List.getElem?_cons_succ, List.getElem?_cons_zero]; try rfl)
                  go_simp
                  refine hK.out _ _ (HSS.out _ bq26) (fun _ => ?_)
                  clear hK K
                  (try simp only [Act.put, List.setIfInBounds_toArray, List.set_cons_zero, List.set_cons_succ])
                  refine wpAnyH_ready (rs := [8]) (by kernel_rfl) (by simp) ?_
                  refine (AllReadyH.cons (i := 8) (o := ?o8y32) ?ho8y32 (fun K hK => ?_) AllReadyH.nil)
                  case ho8y32 => (simp only [List.getElem?_toArray, List.getElem?_cons_succ, List.getElem?_cons_zero]; try rfl)
                  go_simp
                  refine hK.out _ _ (HSS.out _ bq26) (fun _ => ?_)
                  clear hK K
                  (try simp only [Act.put, List.setIfInBounds_toArray, List.set_cons_zero, List.set_cons_succ])
                  refine wpAnyH_take (i := 9) (oi := ?o9x33) (v := ?v9x33) ?ho9x33 (by kernel_rfl) (by kernel_rfl) (by kernel_rfl) ?hQ9x33 (Or.inl ⟨?hw9x33, ?hy9x33⟩) (by assumption) ?_
                  case ho9x33 => (simp only [List.getElem?_toArray, List.getElem?_cons_succ, List.getElem?_cons_zero]; try rfl)
                  case hQ9x33 => exact fun _ _ _ h => h
                  case hw9x33 => rfl
                  case hy9x33 => (intro w hSw; (try dsimp only at hSw); go_simp; (first | done | (with_reducible rfl)))
                  (try simp only [Act.put, List.setIfInBounds_toArray, List.set_cons_zero, List.set_cons_succ])
                  refine wpAnyH_take (i := 10) (oi := ?o10x34) (v := ?v10x34) ?ho10x34 (by kernel_rfl) (by kernel_rfl) (by kernel_rfl) ?hQ10x34 (Or.inl ⟨?hw10x34, ?hy10x34⟩) (by assumption) ?_
                  case ho10x34 => (simp only [List.getElem?_toArray, List.getElem?_cons_succ, List.getElem?_cons_zero]; try rfl)
                  case hQ10x34 => exact fun _ _ _ h => h
                  case hw10x34 => rfl
                  case hy10x34 => (intro w hSw; (try dsimp only at hSw); go_simp; (first | done | (with_reducible rfl)))
                  (try simp only [Act.put, List.setIfInBounds_toArray, List.set_cons_zero, List.set_cons_succ])
                  refine wpAnyH_take (i := 11) (oi := ?o11x35) (v := ?v11x35) ?ho11x35 (by kernel_rfl) (by kernel_rfl) (by kernel_rfl) ?hQ11x35 (Or.inl ⟨?hw11x35, ?hy11x35⟩) (by assumption) ?_
                  case ho11x35 => (simp only [List.getElem?_toArray, List.getElem?_cons_succ, List.getElem?_cons_zero]; try rfl)
                  case hQ11x35 => exact fun _ _ _ h => h
                  case hw11x35 => rfl
                  case hy11x35 => (intro w hSw; (try dsimp only at hSw); go_simp; (first | done | (with_reducible rfl)))
                  (try simp only [Act.put, List.setIfInBounds_toArray, List.set_cons_zero, List.set_cons_succ])
                  refine wpAnyH_take (i := 12) (oi := ?o12x36) (v := ?v12x36) ?ho12x36 (by kernel_rfl) (by kernel_rfl) (by kernel_rfl) ?hQ12x36 (Or.inl ⟨?hw12x36, ?hy12x36⟩) (by assumption) ?_
                  case ho12x36 => (simp only [List.getElem?_toArray, List.getElem?_cons_succ, List.getElem?_cons_zero]; try rfl)
                  case hQ12x36 => exact fun _ _ _ h => h
                  case hw12x36 => rfl
                  case hy12x36 => (intro w hSw; (try dsimp only at hSw); go_simp; (first | done | (with_reducible rfl)))
                  (try simp only [Act.put, List.setIfInBounds_toArray, List.set_cons_zero, List.set_cons_succ])
                  refine wpAnyH_take (i := 14) (oi := ?o14x37) (v := ?v14x37) ?ho14x37 (by kernel_rfl) (by kernel_rfl) (by kernel_rfl) ?hQ14x37 (Or.inl ⟨?hw14x37, ?hy14x37⟩) (by assumption) ?_
                  case ho14x37 => (simp only [List.getElem?_toArray, List.getElem?_cons_succ, List.getElem?_cons_zero]; try rfl)
                  case hQ14x37 => exact fun _ _ _ h => h
                  case hw14x37 => rfl
                  case hy14x37 => (intro w hSw; (try dsimp only at hSw); go_simp; (first | done | (with_reducible rfl)))
                  (try simp only [Act.put, List.setIfInBounds_toArray, List.set_cons_zero, List.set_cons_succ])
                  refine wpAnyH_take (i := 15) (oi := ?o15x38) (v := ?v15x38) ?ho15x38 (by kernel_rfl) (by kernel_rfl) (by kernel_rfl) ?hQ15x38 (Or.inl ⟨?hw15x38, ?hy15x38⟩) (by assumption) ?_
                  case ho15x38 => (simp only [List.getElem?_toArray, List.getElem?_cons_succ, List.getElem?_cons_zero]; try rfl)
                  case hQ15x38 => exact fun _ _ _ h => h
                  case hw15x38 => rfl
                  case hy15x38 => (intro w hSw; (try dsimp only at hSw); go_simp; (first | done | (with_reducible rfl)))
                  (try simp only [Act.put, List.setIfInBounds_toArray, List.set_cons_zero, List.set_cons_succ])
                  refine wpAnyH_ready (rs := [13]) (by kernel_rfl) (by simp) ?_
                  refine (AllReadyH.cons (i := 13) (o := ?o13y39) ?ho13y39 (fun K hK => ?_) AllReadyH.nil)
                  case ho13y39 => (simp only [List.getElem?_toArray, List.getElem?_cons_succ, List.getElem?_cons_zero]; try rfl)
                  go_simp
                  go_at_call 12
                  (with_reducible refine (HPQ.out _ bq26).mono ?_)
                  rintro e wq39 ⟨rfl, bs39⟩
                  have bq39 := below_step bq26 bs39
                  clear bs39
                  refine hK.out _ _ (HSS.out _ bq39) (fun _ => ?_)
                  clear hK K
                  (try simp only [Act.put, List.setIfInBounds_toArray, List.set_cons_zero, List.set_cons_succ])
                  refine wpAnyH_ready (rs := [16]) (by kernel_rfl) (by simp) ?_
                  refine (AllReadyH.cons (i := 16) (o := ?o16y40) ?ho16y40 (fun K hK => ?_) AllReadyH.nil)
                  case ho16y40 => (simp only [List.getElem?_toArray, List.getElem?_cons_succ, List.getElem?_cons_zero]; try rfl)
                  go_simp
                  go_at_call 12
                  (with_reducible refine (HQP.out _ bq39).mono ?_)
                  rintro e wq40 ⟨rfl, bs40⟩
                  have bq40 := below_step bq39 bs40
                  clear bs40
                  refine hK.out _ _ (HSS.out _ bq40) (fun _ => ?_)
                  clear hK K
                  (try simp only [Act.put, List.setIfInBounds_toArray, List.set_cons_zero, List.set_cons_succ])
                  refine wpAnyH_take (i := 17) (oi := ?o17x41) (v := ?v17x41) ?ho17x41 (by kernel_rfl) (by kernel_rfl) (by kernel_rfl) ?hQ17x41 (Or.inl ⟨?hw17x41, ?hy17x41⟩) (by assumption) ?_
                  case ho17x41 => (simp only [List.getElem?_toArray, List.getElem?_cons_succ, List.getElem?_cons_zero]; try rfl)
                  case hQ17x41 => exact fun _ _ _ h => h
                  case hw17x41 => rfl
                  case hy17x41 => (intro w hSw; (try dsimp only at hSw); go_simp; (first | done | (with_reducible rfl)))
                  (try simp only [Act.put, List.setIfInBounds_toArray, List.set_cons_zero, List.set_cons_succ])
                  refine wpAnyH_take (i := 18) (oi := ?o18x42) (v := ?v18x42) ?ho18x42 (by kernel_rfl) (by kernel_rfl) (by kernel_rfl) ?hQ18x42 (Or.inl ⟨?hw18x42, ?hy18x42⟩) (by assumption) ?_
                  case ho18x42 => (simp only [List.getElem?_toArray, List.getElem?_cons_succ, List.getElem?_cons_zero]; try rfl)
                  case hQ18x42 => exact fun _ _ _ h => h
                  case hw18x42 => rfl
                  case hy18x42 => (intro w hSw; (try dsimp only at hSw); go_simp; (first | done | (with_reducible rfl)))
                  (try simp only [Act.put, List.setIfInBounds_toArray, List.set_cons_zero, List.set_cons_succ])
                  refine wpAnyH_take (i := 19) (oi := ?o19x43) (v := ?v19x43) ?ho19x43 (by kernel_rfl) (by kernel_rfl) (by kernel_rfl) ?hQ19x43 (Or.inl ⟨?hw19x43, ?hy19x43⟩) (by assumption) ?_
                  case ho19x43 => (simp only [List.getElem?_toArray, List.getElem?_cons_succ, List.getElem?_cons_zero]; try rfl)
                  case hQ19x43 => exact fun _ _ _ h => h
                  case hw19x43 => rfl
                  case hy19x43 => (intro w hSw; (try dsimp only at hSw); go_simp; (first | done | (with_reducible rfl)))
                  (try simp only [Act.put, List.setIfInBounds_toArray, List.set_cons_zero, List.set_cons_succ])
                  refine wpAnyH_ready (rs := [20]) (by kernel_rfl) (by simp) ?_
                  refine (AllReadyH.cons (i := 20) (o := ?o20y44) ?ho20y44 (fun K hK => ?_) AllReadyH.nil)
                  case ho20y44 => (simp only [List.getElem?_toArray, List.getElem?_cons_succ, List.getElem?_cons_zero]; try rfl)
                  go_simp
                  go_at_call 13
                  (with_reducible refine (known _).mono ?_)
                  rintro e wq44 ⟨rfl, bs44⟩
                  have bq44 := below_step bq40 bs44
                  clear bs44
                  refine hK.out _ _ (HSS.out _ bq44) (fun _ => ?_)
                  clear hK K
                  (try simp only [Act.put, List.setIfInBounds_toArray, List.set_cons_zero, List.set_cons_succ])
                  refine wpAnyH_take (i := 21) (oi := ?o21x45) (v := ?v21x45) ?ho21x45 (by kernel_rfl) (by kernel_rfl) (by kernel_rfl) ?hQ21x45 (Or.inl ⟨?hw21x45, ?hy21x45⟩) (by assumption) ?_
                  case ho21x45 => (simp only [List.getElem?_toArray, List.getElem?_cons_succ, List.getElem?_cons_zero]; try rfl)
                  case hQ21x45 => exact fun _ _ _ h => h
                  case hw21x45 => rfl
                  case hy21x45 => (intro w hSw; (try dsimp only at hSw); go_simp; (first | done | (with_reducible rfl)))
                  (try simp only [Act.put, List.setIfInBounds_toArray, List.set_cons_zero, List.set_cons_succ])
                  refine wpAnyH_ready (rs := [22]) (by kernel_rfl) (by simp) ?_
                  refine (AllReadyH.cons (i := 22) (o := ?o22y46) ?ho22y46 (fun K hK => ?_) AllReadyH.nil)
                  case ho22y46 => (simp only [List.getElem?_toArray, List.getElem?_cons_succ, List.getElem?_cons_zero]; try rfl)
                  go_simp
                  refine hK.out _ _ (HSS.out _ bq44) (fun _ => ?_)
                  clear hK K
                  (try simp only [Act.put, List.setIfInBounds_toArray, List.set_cons_zero, List.set_cons_succ])
                  refine wpAnyH_done (by kernel_rfl) ?_ _
                  have HBN := hide bq44
                  go_wp2_with fail
                  go_ret
                  exact ⟨rfl, below_step HB2.out (below_step HBC.out HBN.out)⟩
                · go_simp
                  refine hK.out _ _ (HSS.out _ bq26) (fun _ => ?_)
                  clear hK K
                  (try simp only [Act.put, List.setIfInBounds_toArray, List.set_cons_zero, List.set_cons_succ])
                  refine wpAnyH_ready (rs := [5, 7]) (by kernel_rfl) (by simp) ?_
                  refine (AllReadyH.cons (i := 5) (o := ?o5y47) ?ho5y47 (fun K hK => ?_) (AllReadyH.cons (i := 7) (o := ?o7y47) ?ho7y47 (fun K hK => ?_) AllReadyH.nil))
                  case ho5y47 => (simp only [List.getElem?_toArray, List.getElem?_cons_succ, List.getElem?_cons_zero]; try rfl)
                  case ho7y47 => (simp only [List.getElem?_toArray, List.getElem?_cons_succ, List.getElem?_cons_zero]; try rfl)
                  · go_simp
                    refine hK.out _ _ (HSS.out _ bq26) (fun _ => ?_)
                    clear hK K
                    (try simp only [Act.put, List.setIfInBounds_toArray, List.set_cons_zero, List.set_cons_succ])
                    refine wpAnyH_ready (rs := [7]) (by kernel_rfl) (by simp) ?_
                    refine (AllReadyH.cons (i := 7) (o := ?o7y48) ?ho7y48 (fun K hK => ?_) AllReadyH.nil)
                    case ho7y48 => (simp only [List.getElem?_toArray, List.getElem?_cons_succ, List.getElem?_cons_zero]; try rfl)
                    go_simp
                    refine hK.out _ _ (HSS.out _ bq26) (fun _ => ?_)
                    clear hK K
                    (try simp only [Act.put, List.setIfInBounds_toArray, List.set_cons_zero, List.set_cons_succ])
                    refine wpAnyH_ready (rs := [8]) (by kernel_rfl) (by simp) ?_
                    refine (AllReadyH.cons (i := 8) (o := ?o8y49) ?ho8y49 (fun K hK => ?_) AllReadyH.nil)
                    case ho8y49 => (simp only [List.getElem?_toArray, List.getElem?_cons_succ, List.getElem?_cons_zero]; try rfl)
                    go_simp
                    refine hK.out _ _ (HSS.out _ bq26) (fun _ => ?_)
                    clear hK K
                    (try simp only [Act.put, List.setIfInBounds_toArray, List.set_cons_zero, List.set_cons_succ])
                    refine wpAnyH_take (i := 9) (oi := ?o9x50) (v := ?v9x50) ?ho9x50 (by kernel_rfl) (by kernel_rfl) (by kernel_rfl) ?hQ9x50 (Or.inl ⟨?hw9x50, ?hy9x50⟩) (by assumption) ?_
                    case ho9x50 => (simp only [List.getElem?_toArray, List.getElem?_cons_succ, List.getElem?_cons_zero]; try rfl)
                    case hQ9x50 => exact fun _ _ _ h => h
                    case hw9x50 => rfl
                    case hy9x50 => (intro w hSw; (try dsimp only at hSw); go_simp; (first | done | (with_reducible rfl)))
                    (try simp only [Act.put, List.setIfInBounds_toArray, List.set_cons_zero, List.set_cons_succ])
                    refine wpAnyH_take (i := 10) (oi := ?o10x51) (v := ?v10x51) ?ho10x51 (by kernel_rfl) (by kernel_rfl) (by kernel_rfl) ?hQ10x51 (Or.inl ⟨?hw10x51, ?hy10x51⟩) (by assumption) ?_
                    case ho10x51 => (simp only [List.getElem?_toArray, List.getElem?_cons_succ, List.getElem?_cons_zero]; try rfl)
                    case hQ10x51 => exact fun _ _ _ h => h
                    case hw10x51 => rfl
                    case hy10x51 => (intro w hSw; (try dsimp only at hSw); go_simp; (first | done | (with_reducible rfl)))
                    (try simp only [Act.put, List.setIfInBounds_toArray, List.set_cons_zero, List.set_cons_succ])
                    refine wpAnyH_take (i := 11) (oi := ?o11x52) (v := ?v11x52) ?ho11x52 (by kernel_rfl) (by kernel_rfl) (by kernel_rfl) ?hQ11x52 (Or.inl ⟨?hw11x52, ?hy11x52⟩) (by assumption) ?_
                    case ho11x52 => (simp only [List.getElem?_toArray, List.getElem?_cons_succ, List.getElem?_cons_zero]; try rfl)
                    case hQ11x52 => exact fun _ _ _ h => h
                    case hw11x52 => rfl
                    case hy11x52 => (intro w hSw; (try dsimp only at hSw); go_simp; (first | done | (with_reducible rfl)))
                    (try simp only [Act.put, List.setIfInBounds_toArray, List.set_cons_zero, List.set_cons_succ])
                    refine wpAnyH_take (i := 12) (oi := ?o12x53) (v := ?v12x53) ?ho12x53 (by kernel_rfl) (by kernel_rfl) (by kernel_rfl) ?hQ12x53 (Or.inl ⟨?hw12x53, ?hy12x53⟩) (by assumption) ?_
                    case ho12x53 => (simp only [List.getElem?_toArray, List.getElem?_cons_succ, List.getElem?_cons_zero]; try rfl)
                    case hQ12x53 => exact fun _ _ _ h => h
                    case hw12x53 => rfl
                    case hy12x53 => (intro w hSw; (try dsimp only at hSw); go_simp; (first | done | (with_reducible rfl)))
                    (try simp only [Act.put, List.setIfInBounds_toArray, List.set_cons_zero, List.set_cons_succ])
                    refine wpAnyH_take (i := 14) (oi := ?o14x54) (v := ?v14x54) ?ho14x54 (by kernel_rfl) (by kernel_rfl) (by kernel_rfl) ?hQ14x54 (Or.inl ⟨?hw14x54, ?hy14x54⟩) (by assumption) ?_
                    case ho14x54 => (simp only [List.getElem?_toArray, List.getElem?_cons_succ, List.getElem?_cons_zero]; try rfl)
                    case hQ14x54 => exact fun _ _ _ h => h
                    case hw14x54 => rfl
                    case hy14x54 => (intro w hSw; (try dsimp only at hSw); go_simp; (first | done | (with_reducible rfl)))
                    (try simp only [Act.put, List.setIfInBounds_toArray, List.set_cons_zero, List.set_cons_succ])
                    refine wpAnyH_take (i := 15) (oi := ?o15x55) (v := ?v15x55) ?ho15x55 (by kernel_rfl) (by kernel_rfl) (by kernel_rfl) ?hQ15x55 (Or.inl ⟨?hw15x55, ?hy15x55⟩) (by assumption) ?_
                    case ho15x55 => (simp only [List.getElem?_toArray, List.getElem?_cons_succ, List.getElem?_cons_zero]; try rfl)
                    case hQ15x55 => exact fun _ _ _ h => h
                    case hw15x55 => rfl
                    case hy15x55 => (intro w hSw; (try dsimp only at hSw); go_simp; (first | done | (with_reducible rfl)))
                    (try simp only [Act.put, List.setIfInBounds_toArray, List.set_cons_zero, List.set_cons_succ])
                    refine wpAnyH_ready (rs := [13]) (by kernel_rfl) (by simp) ?_
                    refine (AllReadyH.cons (i := 13) (o := ?o13y56) ?ho13y56 (fun K hK => ?_) AllReadyH.nil)
                    case ho13y56 => (simp only [List.getElem?_toArray, List.getElem?_cons_succ, List.getElem?_cons_zero]; try rfl)
                    go_simp
                    go_at_call 12
                    (with_reducible refine (HPQ.out _ bq26).mono ?_)
                    rintro e wq56 ⟨rfl, bs56⟩
                    have bq56 := below_step bq26 bs56
                    clear bs56
                    refine hK.out _ _ (HSS.out _ bq56) (fun _ => ?_)
                    clear hK K
                    (try simp only [Act.put, List.setIfInBounds_toArray, List.set_cons_zero, List.set_cons_succ])
                    refine wpAnyH_ready (rs := [16]) (by kernel_rfl) (by simp) ?_
                    refine (AllReadyH.cons (i := 16) (o := ?o16y57) ?ho16y57 (fun K hK => ?_) AllReadyH.nil)
                    case ho16y57 => (simp only [List.getElem?_toArray, List.getElem?_cons_succ, List.getElem?_cons_zero]; try rfl)
                    go_simp
                    go_at_call 12
                    (with_reducible refine (HQP.out _ bq56).mono ?_)
                    rintro e wq57 ⟨rfl, bs57⟩
                    have bq57 := below_step bq56 bs57
                    clear bs57
                    refine hK.out _ _ (HSS.out _ bq57) (fun _ => ?_)
                    clear hK K
                    (try simp only [Act.put, List.setIfInBounds_toArray, List.set_cons_zero, List.set_cons_succ])
                    refine wpAnyH_take (i := 17) (oi := ?o17x58) (v := ?v17x58) ?ho17x58 (by kernel_rfl) (by kernel_rfl) (by kernel_rfl) ?hQ17x58 (Or.inl ⟨?hw17x58, ?hy17x58⟩) (by assumption) ?_
                    case ho17x58 => (simp only [List.getElem?_toArray, List.getElem?_cons_succ, List.getElem?_cons_zero]; try rfl)
                    case hQ17x58 => exact fun _ _ _ h => h
                    case hw17x58 => rfl
                    case hy17x58 => (intro w hSw; (try dsimp only at hSw); go_simp; (first | done | (with_reducible rfl)))
                    (try simp only [Act.put, List.setIfInBounds_toArray, List.set_cons_zero, List.set_cons_succ])
                    refine wpAnyH_take (i := 18) (oi := ?o18x59) (v := ?v18x59) ?ho18x59 (by kernel_rfl) (by kernel_rfl) (by kernel_rfl) ?hQ18x59 (Or.inl ⟨?hw18x59, ?hy18x59⟩) (by assumption) ?_
                    case ho18x59 => (simp only [List.getElem?_toArray, List.getElem?_cons_succ, List.getElem?_cons_zero]; try rfl)
                    case hQ18x59 => exact fun _ _ _ h => h
                    case hw18x59 => rfl
                    case hy18x59 => (intro w hSw; (try dsimp only at hSw); go_simp; (first | done | (with_reducible rfl)))
                    (try simp only [Act.put, List.setIfInBounds_toArray, List.set_cons_zero, List.set_cons_succ])
                    refine wpAnyH_take (i := 19) (oi := ?o19x60) (v := ?v19x60) ?ho19x60 (by kernel_rfl) (by kernel_rfl) (by kernel_rfl) ?hQ19x60 (Or.inl ⟨?hw19x60, ?hy19x60⟩) (by assumption) ?_
                    case ho19x60 => (simp only [List.getElem?_toArray, List.getElem?_cons_succ, List.getElem?_cons_zero]; try rfl)
                    case hQ19x60 => exact fun _ _ _ h => h
                    case hw19x60 => rfl
                    case hy19x60 => (intro w hSw; (try dsimp only at hSw); go_simp; (first | done | (with_reducible rfl)))
                    (try simp only [Act.put, List.setIfInBounds_toArray, List.set_cons_zero, List.set_cons_succ])
                    refine wpAnyH_ready (rs := [20]) (by kernel_rfl) (by simp) ?_
                    refine (AllReadyH.cons (i := 20) (o := ?o20y61) ?ho20y61 (fun K hK => ?_) AllReadyH.nil)
                    case ho20y61 => (simp only [List.getElem?_toArray, List.getElem?_cons_succ, List.getElem?_cons_zero]; try rfl)
                    go_simp
                    go_at_call 13
                    (with_reducible refine (known _).mono ?_)
                    rintro e wq61 ⟨rfl, bs61⟩
                    have bq61 := below_step bq57 bs61
                    clear bs61
                    refine hK.out _ _ (HSS.out _ bq61) (fun _ => ?_)
                    clear hK K
                    (try simp only [Act.put, List.setIfInBounds_toArray, List.set_cons_zero, List.set_cons_succ])
                    refine wpAnyH_take (i := 21) (oi := ?o21x62) (v := ?v21x62) ?ho21x62 (by kernel_rfl) (by kernel_rfl) (by kernel_rfl) ?hQ21x62 (Or.inl ⟨?hw21x62, ?hy21x62⟩) (by assumption) ?_
                    case ho21x62 => (simp only [List.getElem?_toArray, List.getElem?_cons_succ, List.getElem?_cons_zero]; try rfl)
                    case hQ21x62 => exact fun _ _ _ h => h
                    case hw21x62 => rfl
                    case hy21x62 => (intro w hSw; (try dsimp only at hSw); go_simp; (first | done | (with_reducible rfl)))
                    (try simp only [Act.put, List.setIfInBounds_toArray, List.set_cons_zero, List.set_cons_succ])
                    refine wpAnyH_ready (rs := [22]) (by kernel_rfl) (by simp) ?_
                    refine (AllReadyH.cons (i := 22) (o := ?o22y63) ?ho22y63 (fun K hK => ?_) AllReadyH.nil)
                    case ho22y63 => (simp only [List.getElem?_toArray, List.getElem?_cons_succ, List.getElem?_cons_zero]; try rfl)
                    go_simp
                    refine hK.out _ _ (HSS.out _ bq61) (fun _ => ?_)
                    clear hK K
                    (try simp only [Act.put, List.setIfInBounds_toArray, List.set_cons_zero, List.set_cons_succ])
                    refine wpAnyH_done (by kernel_rfl) ?_ _
                    have HBN := hide bq61
                    go_wp2_with fail
                    go_ret
                    exact ⟨rfl, below_step HB2.out (below_step HBC.out HBN.out)⟩
                  · go_simp
                    refine hK.out _ _ (HSS.out _ bq26) (fun _ => ?_)
                    clear hK K
                    (try simp only [Act.put, List.setIfInBounds_toArray, List.set_cons_zero, List.set_cons_succ])
                    refine wpAnyH_ready (rs := [5]) (by kernel_rfl) (by simp) ?_
                    refine (AllReadyH.cons (i := 5) (o := ?o5y64) ?ho5y64 (fun K hK => ?_) AllReadyH.nil)
                    case ho5y64 => (simp only [List.getElem?_toArray, List.getElem?_cons_succ, List.getElem?_cons_zero]; try rfl)
                    go_simp
                    refine hK.out _ _ (HSS.out _ bq26) (fun _ => ?_)
                    clear hK K
                    (try simp only [Act.put, List.setIfInBounds_toArray, List.set_cons_zero, List.set_cons_succ])
                    refine wpAnyH_ready (rs := [8]) (by kernel_rfl) (by simp) ?_
                    refine (AllReadyH.cons (i := 8) (o := ?o8y65) ?ho8y65 (fun K hK => ?_) AllReadyH.nil)
                    case ho8y65 => (simp only [List.getElem?_toArray, List.getElem?_cons_succ, List.getElem?_cons_zero]; try rfl)
                    go_simp
                    refine hK.out _ _ (HSS.out _ bq26) (fun _ => ?_)
                    clear hK K
                    (try simp only [Act.put, List.setIfInBounds_toArray, List.set_cons_zero, List.set_cons_succ])
                    refine wpAnyH_take (i := 9) (oi := ?o9x66) (v := ?v9x66) ?ho9x66 (by kernel_rfl) (by kernel_rfl) (by kernel_rfl) ?hQ9x66 (Or.inl ⟨?hw9x66, ?hy9x66⟩) (by assumption) ?_
                    case ho9x66 => (simp only [List.getElem?_toArray, List.getElem?_cons_succ, List.getElem?_cons_zero]; try rfl)
                    case hQ9x66 => exact fun _ _ _ h => h
                    case hw9x66 => rfl
                    case hy9x66 => (intro w hSw; (try dsimp only at hSw); go_simp; (first | done | (with_reducible rfl)))
                    (try simp only [Act.put, List.setIfInBounds_toArray, List.set_cons_zero, List.set_cons_succ])
                    refine wpAnyH_take (i := 10) (oi := ?o10x67) (v := ?v10x67) ?ho10x67 (by kernel_rfl) (by kernel_rfl) (by kernel_rfl) ?hQ10x67 (Or.inl ⟨?hw10x67, ?hy10x67⟩) (by assumption) ?_
                    case ho10x67 => (simp only [List.getElem?_toArray, List.getElem?_cons_succ, List.getElem?_cons_zero]; try rfl)
                    case hQ10x67 => exact fun _ _ _ h => h
                    case hw10x67 => rfl
                    case hy10x67 => (intro w hSw; (try dsimp only at hSw); go_simp; (first | done | (with_reducible rfl)))
                    (try simp only [Act.put, List.setIfInBounds_toArray, List.set_cons_zero, List.set_cons_succ])
                    refine wpAnyH_take (i := 11) (oi := ?o11x68) (v := ?v11x68) ?ho11x68 (by kernel_rfl) (by kernel_rfl) (by kernel_rfl) ?hQ11x68 (Or.inl ⟨?hw11x68, ?hy11x68⟩) (by assumption) ?_
                    case ho11x68 => (simp only [List.getElem?_toArray, List.getElem?_cons_succ, List.getElem?_cons_zero]; try rfl)
                    case hQ11x68 => exact fun _ _ _ h => h
                    case hw11x68 => rfl
                    case hy11x68 => (intro w hSw; (try dsimp only at hSw); go_simp; (first | done | (with_reducible rfl)))
                    (try simp only [Act.put, List.setIfInBounds_toArray, List.set_cons_zero, List.set_cons_succ])
                    refine wpAnyH_take (i := 12) (oi := ?o12x69) (v := ?v12x69) ?ho12x69 (by kernel_rfl) (by kernel_rfl) (by kernel_rfl) ?hQ12x69 (Or.inl ⟨?hw12x69, ?hy12x69⟩) (by assumption) ?_
                    case ho12x69 => (simp only [List.getElem?_toArray, List.getElem?_cons_succ, List.getElem?_cons_zero]; try rfl)
                    case hQ12x69 => exact fun _ _ _ h => h
                    case hw12x69 => rfl
                    case hy12x69 => (intro w hSw; (try dsimp only at hSw); go_simp; (first | done | (with_reducible rfl)))
                    (try simp only [Act.put, List.setIfInBounds_toArray, List.set_cons_zero, List.set_cons_succ])
                    refine wpAnyH_take (i := 14) (oi := ?o14x70) (v := ?v14x70) ?ho14x70 (by kernel_rfl) (by kernel_rfl) (by kernel_rfl) ?hQ14x70 (Or.inl ⟨?hw14x70, ?hy14x70⟩) (by assumption) ?_
                    case ho14x70 => (simp only [List.getElem?_toArray, List.getElem?_cons_succ, List.getElem?_cons_zero]; try rfl)
                    case hQ14x70 => exact fun _ _ _ h => h
                    case hw14x70 => rfl
                    case hy14x70 => (intro w hSw; (try dsimp only at hSw); go_simp; (first | done | (with_reducible rfl)))
                    (try simp only [Act.put, List.setIfInBounds_toArray, List.set_cons_zero, List.set_cons_succ])
                    refine wpAnyH_take (i := 15) (oi := ?o15x71) (v := ?v15x71) ?ho15x71 (by kernel_rfl) (by kernel_rfl) (by kernel_rfl) ?hQ15x71 (Or.inl ⟨?hw15x71, ?hy15x71⟩) (by assumption) ?_
                    case ho15x71 => (simp only [List.getElem?_toArray, List.getElem?_cons_succ, List.getElem?_cons_zero]; try rfl)
                    case hQ15x71 => exact fun _ _ _ h => h
                    case hw15x71 => rfl
                    case hy15x71 => (intro w hSw; (try dsimp only at hSw); go_simp; (first | done | (with_reducible rfl)))
                    (try simp only [Act.put, List.setIfInBounds_toArray, List.set_cons_zero, List.set_cons_succ])
                    refine wpAnyH_ready (rs := [13]) (by kernel_rfl) (by simp) ?_
                    refine (AllReadyH.cons (i := 13) (o := ?o13y72) ?ho13y72 (fun K hK => ?_) AllReadyH.nil)
                    case ho13y72 => (simp only [List.getElem?_toArray, List.getElem?_cons_succ, List.getElem?_cons_zero]; try rfl)
                    go_simp
                    go_at_call 12
                    (with_reducible refine (HPQ.out _ bq26).mono ?_)
                    rintro e wq72 ⟨rfl, bs72⟩
                    have bq72 := below_step bq26 bs72
                    clear bs72
                    refine hK.out _ _ (HSS.out _ bq72) (fun _ => ?_)
                    clear hK K
                    (try simp only [Act.put, List.setIfInBounds_toArray, List.set_cons_zero, List.set_cons_succ])
                    refine wpAnyH_ready (rs := [16]) (by kernel_rfl) (by simp) ?_
                    refine (AllReadyH.cons (i := 16) (o := ?o16y73) ?ho16y73 (fun K hK => ?_) AllReadyH.nil)
                    case ho16y73 => (simp only [List.getElem?_toArray, List.getElem?_cons_succ, List.getElem?_cons_zero]; try rfl)
                    go_simp
                    go_at_call 12
                    (with_reducible refine (HQP.out _ bq72).mono ?_)
                    rintro e wq73 ⟨rfl, bs73⟩
                    have bq73 := below_step bq72 bs73
                    clear bs73
                    refine hK.out _ _ (HSS.out _ bq73) (fun _ => ?_)
                    clear hK K
                    (try simp only [Act.put, List.setIfInBounds_toArray, List.set_cons_zero, List.set_cons_succ])
                    refine wpAnyH_take (i := 17) (oi := ?o17x74) (v := ?v17x74) ?ho17x74 (by kernel_rfl) (by kernel_rfl) (by kernel_rfl) ?hQ17x74 (Or.inl ⟨?hw17x74, ?hy17x74⟩) (by assumption) ?_
                    case ho17x74 => (simp only [List.getElem?_toArray, List.getElem?_cons_succ, List.getElem?_cons_zero]; try rfl)
                    case hQ17x74 => exact fun _ _ _ h => h
                    case hw17x74 => rfl
                    case hy17x74 => (intro w hSw; (try dsimp only at hSw); go_simp; (first | done | (with_reducible rfl)))
                    (try simp only [Act.put, List.setIfInBounds_toArray, List.set_cons_zero, List.set_cons_succ])
                    refine wpAnyH_take (i := 18) (oi := ?o18x75) (v := ?v18x75) ?ho18x75 (by kernel_rfl) (by kernel_rfl) (by kernel_rfl) ?hQ18x75 (Or.inl ⟨?hw18x75, ?hy18x75⟩) (by assumption) ?_
                    case ho18x75 => (simp only [List.getElem?_toArray, List.getElem?_cons_succ, List.getElem?_cons_zero]; try rfl)
                    case hQ18x75 => exact fun _ _ _ h => h
                    case hw18x75 => rfl
                    case hy18x75 => (intro w hSw; (try dsimp only at hSw); go_simp; (first | done | (with_reducible rfl)))
                    (try simp only [Act.put, List.setIfInBounds_toArray, List.set_cons_zero, List.set_cons_succ])
                    refine wpAnyH_take (i := 19) (oi := ?o19x76) (v := ?v19x76) ?ho19x76 (by kernel_rfl) (by kernel_rfl) (by kernel_rfl) ?hQ19x76 (Or.inl ⟨?hw19x76, ?hy19x76⟩) (by assumption) ?_
                    case ho19x76 => (simp only [List.getElem?_toArray, List.getElem?_cons_succ, List.getElem?_cons_zero]; try rfl)
                    case hQ19x76 => exact fun _ _ _ h => h
                    case hw19x76 => rfl
                    case hy19x76 => (intro w hSw; (try dsimp only at hSw); go_simp; (first | done | (with_reducible rfl)))
                    (try simp only [Act.put, List.setIfInBounds_toArray, List.set_cons_zero, List.set_cons_succ])
                    refine wpAnyH_ready (rs := [20]) (by kernel_rfl) (by simp) ?_
                    refine (AllReadyH.cons (i := 20) (o := ?o20y77) ?ho20y77 (fun K hK => ?_) AllReadyH.nil)
                    case ho20y77 => (simp only [List.getElem?_toArray, List.getElem?_cons_succ, List.getElem?_cons_zero]; try rfl)
                    go_simp
                    go_at_call 13
                    (with_reducible refine (known _).mono ?_)
                    rintro e wq77 ⟨rfl, bs77⟩
                    have bq77 := below_step bq73 bs77
                    clear bs77
                    refine hK.out _ _ (HSS.out _ bq77) (fun _ => ?_)
                    clear hK K
                    (try simp only [Act.put, List.setIfInBounds_toArray, List.set_cons_zero, List.set_cons_succ])
                    refine wpAnyH_take (i := 21) (oi := ?o21x78) (v := ?v21x78) ?ho21x78 (by kernel_rfl) (by kernel_rfl) (by kernel_rfl) ?hQ21x78 (Or.inl ⟨?hw21x78, ?hy21x78⟩) (by assumption) ?_
                    case ho21x78 => (simp only [List.getElem?_toArray, List.getElem?_cons_succ, List.getElem?_cons_zero]; try rfl)
                    case hQ21x78 => exact fun _ _ _ h => h
                    case hw21x78 => rfl
                    case hy21x78 => (intro w hSw; (try dsimp only at hSw); go_simp; (first | done | (with_reducible rfl)))
                    (try simp only [Act.put, List.setIfInBounds_toArray, List.set_cons_zero, List.set_cons_succ])
                    refine wpAnyH_ready (rs := [22]) (by kernel_rfl) (by simp) ?_
                    refine (AllReadyH.cons (i := 22) (o := ?o22y79) ?ho22y79 (fun K hK => ?_) AllReadyH.nil)
                    case ho22y79 => (simp only [List.getElem?_toArray, List.getElem?_cons_succ, List.getElem?_cons_zero]; try rfl)
                    go_simp
                    refine hK.out _ _ (HSS.out _ bq77) (fun _ => ?_)
                    clear hK K
                    (try simp only [Act.put, List.setIfInBounds_toArray, List.set_cons_zero, List.set_cons_succ])
                    refine wpAnyH_done (by kernel_rfl) ?_ _
                    have HBN := hide bq77
                    go_wp2_with fail
                    go_ret
                    exact ⟨rfl, below_step HB2.out (below_step HBC.out HBN.out)⟩
          · have h3 : ¬ (k : Int) < (n : Int) := by omega
            clear hlt hk30 hkn h1
            go_upto_region 26 with fail
            go_cut [102] from 94 to 102 (fun v wx => v = .bool false ∧ Below w2.heap.size w2 wx)
            case first =>
              cases hE0 : ((E : Int) == 0) with
              | false =>
                go_wp2_with fail
                go_meet
                exact ⟨rfl, HBR.out⟩
              | true =>
                have hz : E = 0 := by have := beq_iff_eq.1 hE0; omega
                have hli := HLI.out hz
                have hln : nl (showR ⟨p0, p1, p2, p3, p4, p5⟩ []) = LN := by rw [← HSB.out]; exact HLN.out
                rw [hln] at hli
                have HC := hide (c_count _ _ wr (HTP.out.below HBR.out) HSP.out)
                obtain ⟨cn, hcn⟩ : ∃ z, cntT ⟨p0, p1, p2, p3, p4, p5⟩ = z := ⟨_, rfl⟩
                rw [hcn] at HC hli hpc
                have kw : IntKind.i64.wrap ((cn : Int) - 1) = (cn : Int) - 1 := IntWalk.i64_in _ (by omega)
                have kb : ((LN : Int) != (cn : Int) - 1) = false := by rw [show (LN : Int) = (cn : Int) - 1 from by omega]; simp
                clear hz hli hln hcn
                go_wp2_with (go_at_call 11; (with_reducible refine HC.out.mono ?_); rintro e w' ⟨rfl, hb⟩; have HBB := hide (below_step HBR.out hb); clear hb)
                go_meet
                exact ⟨rfl, HBB.out⟩
            case rest =>
              obtain ⟨rfl, hbc⟩ := hcut
              have HBC := hide hbc
              clear hbc a0 a1 a2 a3 a4 a5
              have HPQ := hide (fun W (h : Below wc.heap.size wc W) => c_same _ _ _ _ W ((HTP.out.below HBC.out).below h) ((HTQ.out.below HBC.out).below h) HSP.out)
              have HQP := hide (fun W (h : Below wc.heap.size wc W) => c_same _ _ _ _ W ((HTQ.out.below HBC.out).below h) ((HTP.out.below HBC.out).below h) HSQ.out)
              have HSQ2 := hide (fun W (h : Below wc.heap.size wc W) => c_show _ _ W ((HTQ.out.below HBC.out).below h) HSQ.out)
              rw [eqT_symm ⟨q0, q1, q2, q3, q4, q5⟩ ⟨p0, p1, p2, p3, p4, p5⟩] at HQP
              obtain ⟨b, hb⟩ : ∃ b, eqT ⟨p0, p1, p2, p3, p4, p5⟩ ⟨q0, q1, q2, q3, q4, q5⟩ = b := ⟨_, rfl⟩
              rw [hb] at HPQ HQP
              have hPc := (HBC.out.block _ (blk_lt HP.out)).trans HP.out
              have hQc := (HBC.out.block _ (blk_lt HQ.out)).trans HQ.out
              have HSS := hide (fun (W : World) (h : Below wc.heap.size wc W) => (⟨cellW (cell_of_row _ _ 0 _ _ _ hPc) h, cellW (cell_of_row _ _ 1 _ _ _ hPc) h, cellW (cell_of_row _ _ 2 _ _ _ hPc) h, cellW (cell_of_row _ _ 3 _ _ _ hPc) h, cellW (cell_of_row _ _ 4 _ _ _ hPc) h, cellW (cell_of_row _ _ 5 _ _ _ hPc) h, cellW (cell_of_row _ _ 0 _ _ _ hQc) h, cellW (cell_of_row _ _ 1 _ _ _ hQc) h, cellW (cell_of_row _ _ 2 _ _ _ hQc) h, cellW (cell_of_row _ _ 3 _ _ _ hQc) h, cellW (cell_of_row _ _ 4 _ _ _ hQc) h, cellW (cell_of_row _ _ 5 _ _ _ hQc) h⟩ : W.cell? ⟨X, 0, none⟩ = some (.int .i64 p0) ∧ W.cell? ⟨X, 1, none⟩ = some (.int .i64 p1) ∧ W.cell? ⟨X, 2, none⟩ = some (.string p2) ∧ W.cell? ⟨X, 3, none⟩ = some (.slice A3 p3.length c3) ∧ W.cell? ⟨X, 4, none⟩ = some (.string p4) ∧ W.cell? ⟨X, 5, none⟩ = some (.slice A5 p5.length c5) ∧ W.cell? ⟨(X + 1), 0, none⟩ = some (.int .i64 q0) ∧ W.cell? ⟨(X + 1), 1, none⟩ = some (.int .i64 q1) ∧ W.cell? ⟨(X + 1), 2, none⟩ = some (.string q2) ∧ W.cell? ⟨(X + 1), 3, none⟩ = some (.slice B3 q3.length d3) ∧ W.cell? ⟨(X + 1), 4, none⟩ = some (.string q4) ∧ W.cell? ⟨(X + 1), 5, none⟩ = some (.slice B5 q5.length d5)))
              clear hPc hQc
              go_upto_region 28 with fail
              cases b with
              | true =>
                have hS : (⟨(showR ⟨q0, q1, q2, q3, q4, q5⟩ []).toArray⟩ : ByteArray) = S := by rw [← eqT_id _ _ hb]; exact HSH.out
                rw [hS] at HSQ2
                clear hS hb
                refine wp_region_held_drew (S := fun W => W.cell? ⟨X, 0, none⟩ = some (.int .i64 p0) ∧ W.cell? ⟨X, 1, none⟩ = some (.int .i64 p1) ∧ W.cell? ⟨X, 2, none⟩ = some (.string p2) ∧ W.cell? ⟨X, 3, none⟩ = some (.slice A3 p3.length c3) ∧ W.cell? ⟨X, 4, none⟩ = some (.string p4) ∧ W.cell? ⟨X, 5, none⟩ = some (.slice A5 p5.length c5) ∧ W.cell? ⟨(X + 1), 0, none⟩ = some (.int .i64 q0) ∧ W.cell? ⟨(X + 1), 1, none⟩ = some (.int .i64 q1) ∧ W.cell? ⟨(X + 1), 2, none⟩ = some (.string q2) ∧ W.cell? ⟨(X + 1), 3, none⟩ = some (.slice B3 q3.length d3) ∧ W.cell? ⟨(X + 1), 4, none⟩ = some (.string q4) ∧ W.cell? ⟨(X + 1), 5, none⟩ = some (.slice B5 q5.length d5)) (by kernel_rfl) (HSS.out _ (Below.drew (Below.refl _ _))) (fun hHeld => ?_)
                have b0 := Below.drew (Below.refl wc.heap.size wc)
                generalize wc.drew = wd at b0 hHeld ⊢
                refine wpAnyH_take (i := 0) (oi := ?o0x1) (v := ?v0x1) ?ho0x1 (by kernel_rfl) (by kernel_rfl) (by kernel_rfl) ?hQ0x1 (Or.inl ⟨?hw0x1, ?hy0x1⟩) (by assumption) ?_
                case ho0x1 => (simp only [List.getElem?_toArray, List.getElem?_cons_succ, List.getElem?_cons_zero]; try rfl)
                case hQ0x1 => exact fun _ _ _ h => h
                case hw0x1 => rfl
                case hy0x1 => (intro w hSw; (try dsimp only at hSw); go_simp; (first | done | (with_reducible rfl)))
                (try simp only [Act.put, List.setIfInBounds_toArray, List.set_cons_zero, List.set_cons_succ])
                refine wpAnyH_take (i := 1) (oi := ?o1x2) (v := ?v1x2) ?ho1x2 (by kernel_rfl) (by kernel_rfl) (by kernel_rfl) ?hQ1x2 (Or.inl ⟨?hw1x2, ?hy1x2⟩) (by assumption) ?_
                case ho1x2 => (simp only [List.getElem?_toArray, List.getElem?_cons_succ, List.getElem?_cons_zero]; try rfl)
                case hQ1x2 => exact fun _ _ _ h => h
                case hw1x2 => rfl
                case hy1x2 => (intro w hSw; (try dsimp only at hSw); go_simp; (first | done | (with_reducible rfl)))
                (try simp only [Act.put, List.setIfInBounds_toArray, List.set_cons_zero, List.set_cons_succ])
                refine wpAnyH_ready (rs := [2]) (by kernel_rfl) (by simp) ?_
                refine (AllReadyH.cons (i := 2) (o := ?o2y3) ?ho2y3 (fun K hK => ?_) AllReadyH.nil)
                case ho2y3 => (simp only [List.getElem?_toArray, List.getElem?_cons_succ, List.getElem?_cons_zero]; try rfl)
                go_simp
                go_at_call 12
                (with_reducible refine (HPQ.out _ b0).mono ?_)
                rintro e wq3 ⟨rfl, bs3⟩
                have bq3 := below_step b0 bs3
                clear bs3
                refine hK.out _ _ (HSS.out _ bq3) (fun _ => ?_)
                clear hK K
                (try simp only [Act.put, List.setIfInBounds_toArray, List.set_cons_zero, List.set_cons_succ])
                refine wpAnyH_take (i := 3) (oi := ?o3x4) (v := ?v3x4) ?ho3x4 (by kernel_rfl) (by kernel_rfl) (by kernel_rfl) ?hQ3x4 (Or.inl ⟨?hw3x4, ?hy3x4⟩) (by assumption) ?_
                case ho3x4 => (simp only [List.getElem?_toArray, List.getElem?_cons_succ, List.getElem?_cons_zero]; try rfl)
                case hQ3x4 => exact fun _ _ _ h => h
                case hw3x4 => rfl
                case hy3x4 => (intro w hSw; (try dsimp only at hSw); go_simp; (first | done | (with_reducible rfl)))
                (try simp only [Act.put, List.setIfInBounds_toArray, List.set_cons_zero, List.set_cons_succ])
                refine wpAnyH_take (i := 4) (oi := ?o4x5) (v := ?v4x5) ?ho4x5 (by kernel_rfl) (by kernel_rfl) (by kernel_rfl) ?hQ4x5 (Or.inl ⟨?hw4x5, ?hy4x5⟩) (by assumption) ?_
                case ho4x5 => (simp only [List.getElem?_toArray, List.getElem?_cons_succ, List.getElem?_cons_zero]; try rfl)
                case hQ4x5 => exact fun _ _ _ h => h
                case hw4x5 => rfl
                case hy4x5 => (intro w hSw; (try dsimp only at hSw); go_simp; (first | done | (with_reducible rfl)))
                (try simp only [Act.put, List.setIfInBounds_toArray, List.set_cons_zero, List.set_cons_succ])
                refine wpAnyH_take (i := 5) (oi := ?o5x6) (v := ?v5x6) ?ho5x6 (by kernel_rfl) (by kernel_rfl) (by kernel_rfl) ?hQ5x6 (Or.inl ⟨?hw5x6, ?hy5x6⟩) (by assumption) ?_
                case ho5x6 => (simp only [List.getElem?_toArray, List.getElem?_cons_succ, List.getElem?_cons_zero]; try rfl)
                case hQ5x6 => exact fun _ _ _ h => h
                case hw5x6 => rfl
                case hy5x6 => (intro w hSw; (try dsimp only at hSw); go_simp; (first | done | (with_reducible rfl)))
                (try simp only [Act.put, List.setIfInBounds_toArray, List.set_cons_zero, List.set_cons_succ])
                refine wpAnyH_take (i := 6) (oi := ?o6x7) (v := ?v6x7) ?ho6x7 (by kernel_rfl) (by kernel_rfl) (by kernel_rfl) ?hQ6x7 (Or.inl ⟨?hw6x7, ?hy6x7⟩) (by assumption) ?_
                case ho6x7 => (simp only [List.getElem?_toArray, List.getElem?_cons_succ, List.getElem?_cons_zero]; try rfl)
                case hQ6x7 => exact fun _ _ _ h => h
                case hw6x7 => rfl
                case hy6x7 => (intro w hSw; (try dsimp only at hSw); go_simp; (first | done | (with_reducible rfl)))
                (try simp only [Act.put, List.setIfInBounds_toArray, List.set_cons_zero, List.set_cons_succ])
                refine wpAnyH_ready (rs := [7]) (by kernel_rfl) (by simp) ?_
                refine (AllReadyH.cons (i := 7) (o := ?o7y8) ?ho7y8 (fun K hK => ?_) AllReadyH.nil)
                case ho7y8 => (simp only [List.getElem?_toArray, List.getElem?_cons_succ, List.getElem?_cons_zero]; try rfl)
                go_simp
                go_at_call 10
                (with_reducible refine (HSQ2.out _ bq3).mono ?_)
                rintro e wq8 ⟨rfl, bs8⟩
                have bq8 := below_step bq3 bs8
                clear bs8
                refine hK.out _ _ (HSS.out _ bq8) (fun _ => ?_)
                clear hK K
                (try simp only [Act.put, List.setIfInBounds_toArray, List.set_cons_zero, List.set_cons_succ])
                refine wpAnyH_take (i := 8) (oi := ?o8x9) (v := ?v8x9) ?ho8x9 (by kernel_rfl) (by kernel_rfl) (by kernel_rfl) ?hQ8x9 (Or.inl ⟨?hw8x9, ?hy8x9⟩) (by assumption) ?_
                case ho8x9 => (simp only [List.getElem?_toArray, List.getElem?_cons_succ, List.getElem?_cons_zero]; try rfl)
                case hQ8x9 => exact fun _ _ _ h => h
                case hw8x9 => rfl
                case hy8x9 => (intro w hSw; (try dsimp only at hSw); go_simp; (first | done | (with_reducible rfl)))
                (try simp only [Act.put, List.setIfInBounds_toArray, List.set_cons_zero, List.set_cons_succ])
                refine wpAnyH_take (i := 9) (oi := ?o9x10) (v := ?v9x10) ?ho9x10 (by kernel_rfl) (by kernel_rfl) (by kernel_rfl) ?hQ9x10 (Or.inl ⟨?hw9x10, ?hy9x10⟩) (by assumption) ?_
                case ho9x10 => (simp only [List.getElem?_toArray, List.getElem?_cons_succ, List.getElem?_cons_zero]; try rfl)
                case hQ9x10 => exact fun _ _ _ h => h
                case hw9x10 => rfl
                case hy9x10 => (intro w hSw; (try dsimp only at hSw); go_simp; (first | done | (with_reducible rfl)))
                (try simp only [Act.put, List.setIfInBounds_toArray, List.set_cons_zero, List.set_cons_succ])
                refine wpAnyH_take (i := 10) (oi := ?o10x11) (v := ?v10x11) ?ho10x11 (by kernel_rfl) (by kernel_rfl) (by kernel_rfl) ?hQ10x11 (Or.inl ⟨?hw10x11, ?hy10x11⟩) (by assumption) ?_
                case ho10x11 => (simp only [List.getElem?_toArray, List.getElem?_cons_succ, List.getElem?_cons_zero]; try rfl)
                case hQ10x11 => exact fun _ _ _ h => h
                case hw10x11 => rfl
                case hy10x11 => (intro w hSw; (try dsimp only at hSw); go_simp; (first | done | (with_reducible rfl)))
                (try simp only [Act.put, List.setIfInBounds_toArray, List.set_cons_zero, List.set_cons_succ])
                refine wpAnyH_take (i := 11) (oi := ?o11x12) (v := ?v11x12) ?ho11x12 (by kernel_rfl) (by kernel_rfl) (by kernel_rfl) ?hQ11x12 (Or.inl ⟨?hw11x12, ?hy11x12⟩) (by assumption) ?_
                case ho11x12 => (simp only [List.getElem?_toArray, List.getElem?_cons_succ, List.getElem?_cons_zero]; try rfl)
                case hQ11x12 => exact fun _ _ _ h => h
                case hw11x12 => rfl
                case hy11x12 => (intro w hSw; (try dsimp only at hSw); go_simp; (first | done | (with_reducible rfl)))
                (try simp only [Act.put, List.setIfInBounds_toArray, List.set_cons_zero, List.set_cons_succ])
                refine wpAnyH_take (i := 12) (oi := ?o12x13) (v := ?v12x13) ?ho12x13 (by kernel_rfl) (by kernel_rfl) (by kernel_rfl) ?hQ12x13 (Or.inl ⟨?hw12x13, ?hy12x13⟩) (by assumption) ?_
                case ho12x13 => (simp only [List.getElem?_toArray, List.getElem?_cons_succ, List.getElem?_cons_zero]; try rfl)
                case hQ12x13 => exact fun _ _ _ h => h
                case hw12x13 => rfl
                case hy12x13 => (intro w hSw; (try dsimp only at hSw); go_simp; (first | done | (with_reducible rfl)))
                (try simp only [Act.put, List.setIfInBounds_toArray, List.set_cons_zero, List.set_cons_succ])
                refine wpAnyH_take (i := 14) (oi := ?o14x14) (v := ?v14x14) ?ho14x14 (by kernel_rfl) (by kernel_rfl) (by kernel_rfl) ?hQ14x14 (Or.inl ⟨?hw14x14, ?hy14x14⟩) (by assumption) ?_
                case ho14x14 => (simp only [List.getElem?_toArray, List.getElem?_cons_succ, List.getElem?_cons_zero]; try rfl)
                case hQ14x14 => exact fun _ _ _ h => h
                case hw14x14 => rfl
                case hy14x14 => (intro w hSw; (try dsimp only at hSw); go_simp; (first | done | (with_reducible rfl)))
                (try simp only [Act.put, List.setIfInBounds_toArray, List.set_cons_zero, List.set_cons_succ])
                refine wpAnyH_take (i := 15) (oi := ?o15x15) (v := ?v15x15) ?ho15x15 (by kernel_rfl) (by kernel_rfl) (by kernel_rfl) ?hQ15x15 (Or.inl ⟨?hw15x15, ?hy15x15⟩) (by assumption) ?_
                case ho15x15 => (simp only [List.getElem?_toArray, List.getElem?_cons_succ, List.getElem?_cons_zero]; try rfl)
                case hQ15x15 => exact fun _ _ _ h => h
                case hw15x15 => rfl
                case hy15x15 => (intro w hSw; (try dsimp only at hSw); go_simp; (first | done | (with_reducible rfl)))
                (try simp only [Act.put, List.setIfInBounds_toArray, List.set_cons_zero, List.set_cons_succ])
                refine wpAnyH_ready (rs := [13]) (by kernel_rfl) (by simp) ?_
                refine (AllReadyH.cons (i := 13) (o := ?o13y16) ?ho13y16 (fun K hK => ?_) AllReadyH.nil)
                case ho13y16 => (simp only [List.getElem?_toArray, List.getElem?_cons_succ, List.getElem?_cons_zero]; try rfl)
                go_simp
                go_at_call 12
                (with_reducible refine (HPQ.out _ bq8).mono ?_)
                rintro e wq16 ⟨rfl, bs16⟩
                have bq16 := below_step bq8 bs16
                clear bs16
                refine hK.out _ _ (HSS.out _ bq16) (fun _ => ?_)
                clear hK K
                (try simp only [Act.put, List.setIfInBounds_toArray, List.set_cons_zero, List.set_cons_succ])
                refine wpAnyH_ready (rs := [16]) (by kernel_rfl) (by simp) ?_
                refine (AllReadyH.cons (i := 16) (o := ?o16y17) ?ho16y17 (fun K hK => ?_) AllReadyH.nil)
                case ho16y17 => (simp only [List.getElem?_toArray, List.getElem?_cons_succ, List.getElem?_cons_zero]; try rfl)
                go_simp
                go_at_call 12
                (with_reducible refine (HQP.out _ bq16).mono ?_)
                rintro e wq17 ⟨rfl, bs17⟩
                have bq17 := below_step bq16 bs17
                clear bs17
                refine hK.out _ _ (HSS.out _ bq17) (fun _ => ?_)
                clear hK K
                (try simp only [Act.put, List.setIfInBounds_toArray, List.set_cons_zero, List.set_cons_succ])
                refine wpAnyH_take (i := 17) (oi := ?o17x18) (v := ?v17x18) ?ho17x18 (by kernel_rfl) (by kernel_rfl) (by kernel_rfl) ?hQ17x18 (Or.inl ⟨?hw17x18, ?hy17x18⟩) (by assumption) ?_
                case ho17x18 => (simp only [List.getElem?_toArray, List.getElem?_cons_succ, List.getElem?_cons_zero]; try rfl)
                case hQ17x18 => exact fun _ _ _ h => h
                case hw17x18 => rfl
                case hy17x18 => (intro w hSw; (try dsimp only at hSw); go_simp; (first | done | (with_reducible rfl)))
                (try simp only [Act.put, List.setIfInBounds_toArray, List.set_cons_zero, List.set_cons_succ])
                refine wpAnyH_take (i := 18) (oi := ?o18x19) (v := ?v18x19) ?ho18x19 (by kernel_rfl) (by kernel_rfl) (by kernel_rfl) ?hQ18x19 (Or.inl ⟨?hw18x19, ?hy18x19⟩) (by assumption) ?_
                case ho18x19 => (simp only [List.getElem?_toArray, List.getElem?_cons_succ, List.getElem?_cons_zero]; try rfl)
                case hQ18x19 => exact fun _ _ _ h => h
                case hw18x19 => rfl
                case hy18x19 => (intro w hSw; (try dsimp only at hSw); go_simp; (first | done | (with_reducible rfl)))
                (try simp only [Act.put, List.setIfInBounds_toArray, List.set_cons_zero, List.set_cons_succ])
                refine wpAnyH_take (i := 19) (oi := ?o19x20) (v := ?v19x20) ?ho19x20 (by kernel_rfl) (by kernel_rfl) (by kernel_rfl) ?hQ19x20 (Or.inl ⟨?hw19x20, ?hy19x20⟩) (by assumption) ?_
                case ho19x20 => (simp only [List.getElem?_toArray, List.getElem?_cons_succ, List.getElem?_cons_zero]; try rfl)
                case hQ19x20 => exact fun _ _ _ h => h
                case hw19x20 => rfl
                case hy19x20 => (intro w hSw; (try dsimp only at hSw); go_simp; (first | done | (with_reducible rfl)))
                (try simp only [Act.put, List.setIfInBounds_toArray, List.set_cons_zero, List.set_cons_succ])
                refine wpAnyH_ready (rs := [20]) (by kernel_rfl) (by simp) ?_
                refine (AllReadyH.cons (i := 20) (o := ?o20y21) ?ho20y21 (fun K hK => ?_) AllReadyH.nil)
                case ho20y21 => (simp only [List.getElem?_toArray, List.getElem?_cons_succ, List.getElem?_cons_zero]; try rfl)
                go_simp
                go_at_call 13
                (with_reducible refine (known _).mono ?_)
                rintro e wq21 ⟨rfl, bs21⟩
                have bq21 := below_step bq17 bs21
                clear bs21
                refine hK.out _ _ (HSS.out _ bq21) (fun _ => ?_)
                clear hK K
                (try simp only [Act.put, List.setIfInBounds_toArray, List.set_cons_zero, List.set_cons_succ])
                refine wpAnyH_take (i := 21) (oi := ?o21x22) (v := ?v21x22) ?ho21x22 (by kernel_rfl) (by kernel_rfl) (by kernel_rfl) ?hQ21x22 (Or.inl ⟨?hw21x22, ?hy21x22⟩) (by assumption) ?_
                case ho21x22 => (simp only [List.getElem?_toArray, List.getElem?_cons_succ, List.getElem?_cons_zero]; try rfl)
                case hQ21x22 => exact fun _ _ _ h => h
                case hw21x22 => rfl
                case hy21x22 => (intro w hSw; (try dsimp only at hSw); go_simp; (first | done | (with_reducible rfl)))
                (try simp only [Act.put, List.setIfInBounds_toArray, List.set_cons_zero, List.set_cons_succ])
                refine wpAnyH_ready (rs := [22]) (by kernel_rfl) (by simp) ?_
                refine (AllReadyH.cons (i := 22) (o := ?o22y23) ?ho22y23 (fun K hK => ?_) AllReadyH.nil)
                case ho22y23 => (simp only [List.getElem?_toArray, List.getElem?_cons_succ, List.getElem?_cons_zero]; try rfl)
                go_simp
                refine hK.out _ _ (HSS.out _ bq21) (fun _ => ?_)
                clear hK K
                (try simp only [Act.put, List.setIfInBounds_toArray, List.set_cons_zero, List.set_cons_succ])
                refine wpAnyH_done (by kernel_rfl) ?_ _
                have HBN := hide bq21
                go_wp2_with fail
                go_ret
                exact ⟨rfl, below_step HB2.out (below_step HBC.out HBN.out)⟩
              | false =>
                clear hb
                refine wp_region_held_drew (S := fun W => W.cell? ⟨X, 0, none⟩ = some (.int .i64 p0) ∧ W.cell? ⟨X, 1, none⟩ = some (.int .i64 p1) ∧ W.cell? ⟨X, 2, none⟩ = some (.string p2) ∧ W.cell? ⟨X, 3, none⟩ = some (.slice A3 p3.length c3) ∧ W.cell? ⟨X, 4, none⟩ = some (.string p4) ∧ W.cell? ⟨X, 5, none⟩ = some (.slice A5 p5.length c5) ∧ W.cell? ⟨(X + 1), 0, none⟩ = some (.int .i64 q0) ∧ W.cell? ⟨(X + 1), 1, none⟩ = some (.int .i64 q1) ∧ W.cell? ⟨(X + 1), 2, none⟩ = some (.string q2) ∧ W.cell? ⟨(X + 1), 3, none⟩ = some (.slice B3 q3.length d3) ∧ W.cell? ⟨(X + 1), 4, none⟩ = some (.string q4) ∧ W.cell? ⟨(X + 1), 5, none⟩ = some (.slice B5 q5.length d5)) (by kernel_rfl) (HSS.out _ (Below.drew (Below.refl _ _))) (fun hHeld => ?_)
                have b0 := Below.drew (Below.refl wc.heap.size wc)
                generalize wc.drew = wd at b0 hHeld ⊢
                refine wpAnyH_take (i := 0) (oi := ?o0x24) (v := ?v0x24) ?ho0x24 (by kernel_rfl) (by kernel_rfl) (by kernel_rfl) ?hQ0x24 (Or.inl ⟨?hw0x24, ?hy0x24⟩) (by assumption) ?_
                case ho0x24 => (simp only [List.getElem?_toArray, List.getElem?_cons_succ, List.getElem?_cons_zero]; try rfl)
                case hQ0x24 => exact fun _ _ _ h => h
                case hw0x24 => rfl
                case hy0x24 => (intro w hSw; (try dsimp only at hSw); go_simp; (first | done | (with_reducible rfl)))
                (try simp only [Act.put, List.setIfInBounds_toArray, List.set_cons_zero, List.set_cons_succ])
                refine wpAnyH_take (i := 1) (oi := ?o1x25) (v := ?v1x25) ?ho1x25 (by kernel_rfl) (by kernel_rfl) (by kernel_rfl) ?hQ1x25 (Or.inl ⟨?hw1x25, ?hy1x25⟩) (by assumption) ?_
                case ho1x25 => (simp only [List.getElem?_toArray, List.getElem?_cons_succ, List.getElem?_cons_zero]; try rfl)
                case hQ1x25 => exact fun _ _ _ h => h
                case hw1x25 => rfl
                case hy1x25 => (intro w hSw; (try dsimp only at hSw); go_simp; (first | done | (with_reducible rfl)))
                (try simp only [Act.put, List.setIfInBounds_toArray, List.set_cons_zero, List.set_cons_succ])
                refine wpAnyH_ready (rs := [2]) (by kernel_rfl) (by simp) ?_
                refine (AllReadyH.cons (i := 2) (o := ?o2y26) ?ho2y26 (fun K hK => ?_) AllReadyH.nil)
                case ho2y26 => (simp only [List.getElem?_toArray, List.getElem?_cons_succ, List.getElem?_cons_zero]; try rfl)
                go_simp
                go_at_call 12
                (with_reducible refine (HPQ.out _ b0).mono ?_)
                rintro e wq26 ⟨rfl, bs26⟩
                have bq26 := below_step b0 bs26
                clear bs26
                refine hK.out _ _ (HSS.out _ bq26) (fun _ => ?_)
                clear hK K
                (try simp only [Act.put, List.setIfInBounds_toArray, List.set_cons_zero, List.set_cons_succ])
                refine wpAnyH_take (i := 3) (oi := ?o3x27) (v := ?v3x27) ?ho3x27 (by kernel_rfl) (by kernel_rfl) (by kernel_rfl) ?hQ3x27 (Or.inl ⟨?hw3x27, ?hy3x27⟩) (by assumption) ?_
                case ho3x27 => (simp only [List.getElem?_toArray, List.getElem?_cons_succ, List.getElem?_cons_zero]; try rfl)
                case hQ3x27 => exact fun _ _ _ h => h
                case hw3x27 => rfl
                case hy3x27 => (intro w hSw; (try dsimp only at hSw); go_simp; (first | done | (with_reducible rfl)))
                (try simp only [Act.put, List.setIfInBounds_toArray, List.set_cons_zero, List.set_cons_succ])
                refine wpAnyH_take (i := 4) (oi := ?o4x28) (v := ?v4x28) ?ho4x28 (by kernel_rfl) (by kernel_rfl) (by kernel_rfl) ?hQ4x28 (Or.inl ⟨?hw4x28, ?hy4x28⟩) (by assumption) ?_
                case ho4x28 => (simp only [List.getElem?_toArray, List.getElem?_cons_succ, List.getElem?_cons_zero]; try rfl)
                case hQ4x28 => exact fun _ _ _ h => h
                case hw4x28 => rfl
                case hy4x28 => (intro w hSw; (try dsimp only at hSw); go_simp; (first | done | (with_reducible rfl)))
                (try simp only [Act.put, List.setIfInBounds_toArray, List.set_cons_zero, List.set_cons_succ])
                refine wpAnyH_ready (rs := [5, 6]) (by kernel_rfl) (by simp) ?_
                refine (AllReadyH.cons (i := 5) (o := ?o5y29) ?ho5y29 (fun K hK => ?_) (AllReadyH.cons (i := 6) (o := ?o6y29) ?ho6y29 (fun K hK => ?_) AllReadyH.nil))
                case ho5y29 => (simp only [List.getElem?_toArray, List.getElem?_cons_succ, List.getElem?_cons_zero]; try rfl)
                case ho6y29 => (simp only [List.getElem?_toArray, List.getElem?_cons_succ, List.getElem?_cons_zero]; try rfl)
                · go_simp
                  refine hK.out _ _ (HSS.out _ bq26) (fun _ => ?_)
                  clear hK K
                  (try simp only [Act.put, List.setIfInBounds_toArray, List.set_cons_zero, List.set_cons_succ])
                  refine wpAnyH_ready (rs := [6]) (by kernel_rfl) (by simp) ?_
                  refine (AllReadyH.cons (i := 6) (o := ?o6y30) ?ho6y30 (fun K hK => ?_) AllReadyH.nil)
                  case ho6y30 => (simp only [List.getElem?_toArray, List.getElem?_cons_succ, List.getElem?_cons_zero]; try rfl)
                  go_simp
                  refine hK.out _ _ (HSS.out _ bq26) (fun _ => ?_)
                  clear hK K
                  (try simp only [Act.put, List.setIfInBounds_toArray, List.set_cons_zero, List.set_cons_succ])
                  refine wpAnyH_ready (rs := [7]) (by kernel_rfl) (by simp) ?_
                  refine (AllReadyH.cons (i := 7) (o := ?o7y31) ?ho7y31 (fun K hK => ?_) AllReadyH.nil)
                  case ho7y31 => (simp only [List.getElem?_toArray, List.getElem?_cons_succ, List.getElem?_cons_zero]; try rfl)
                  go_simp
                  refine hK.out _ _ (HSS.out _ bq26) (fun _ => ?_)
                  clear hK K
                  (try simp only [Act.put, List.setIfInBounds_toArray, List.set_cons_zero, List.set_cons_succ])
                  refine wpAnyH_ready (rs := [8]) (by kernel_rfl) (by simp) ?_
                  refine (AllReadyH.cons (i := 8) (o := ?o8y32) ?ho8y32 (fun K hK => ?_) AllReadyH.nil)
                  case ho8y32 => (simp only [List.getElem?_toArray, List.getElem?_cons_succ, List.getElem?_cons_zero]; try rfl)
                  go_simp
                  refine hK.out _ _ (HSS.out _ bq26) (fun _ => ?_)
                  clear hK K
                  (try simp only [Act.put, List.setIfInBounds_toArray, List.set_cons_zero, List.set_cons_succ])
                  refine wpAnyH_take (i := 9) (oi := ?o9x33) (v := ?v9x33) ?ho9x33 (by kernel_rfl) (by kernel_rfl) (by kernel_rfl) ?hQ9x33 (Or.inl ⟨?hw9x33, ?hy9x33⟩) (by assumption) ?_
                  case ho9x33 => (simp only [List.getElem?_toArray, List.getElem?_cons_succ, List.getElem?_cons_zero]; try rfl)
                  case hQ9x33 => exact fun _ _ _ h => h
                  case hw9x33 => rfl
                  case hy9x33 => (intro w hSw; (try dsimp only at hSw); go_simp; (first | done | (with_reducible rfl)))
                  (try simp only [Act.put, List.setIfInBounds_toArray, List.set_cons_zero, List.set_cons_succ])
                  refine wpAnyH_take (i := 10) (oi := ?o10x34) (v := ?v10x34) ?ho10x34 (by kernel_rfl) (by kernel_rfl) (by kernel_rfl) ?hQ10x34 (Or.inl ⟨?hw10x34, ?hy10x34⟩) (by assumption) ?_
                  case ho10x34 => (simp only [List.getElem?_toArray, List.getElem?_cons_succ, List.getElem?_cons_zero]; try rfl)
                  case hQ10x34 => exact fun _ _ _ h => h
                  case hw10x34 => rfl
                  case hy10x34 => (intro w hSw; (try dsimp only at hSw); go_simp; (first | done | (with_reducible rfl)))
                  (try simp only [Act.put, List.setIfInBounds_toArray, List.set_cons_zero, List.set_cons_succ])
                  refine wpAnyH_take (i := 11) (oi := ?o11x35) (v := ?v11x35) ?ho11x35 (by kernel_rfl) (by kernel_rfl) (by kernel_rfl) ?hQ11x35 (Or.inl ⟨?hw11x35, ?hy11x35⟩) (by assumption) ?_
                  case ho11x35 => (simp only [List.getElem?_toArray, List.getElem?_cons_succ, List.getElem?_cons_zero]; try rfl)
                  case hQ11x35 => exact fun _ _ _ h => h
                  case hw11x35 => rfl
                  case hy11x35 => (intro w hSw; (try dsimp only at hSw); go_simp; (first | done | (with_reducible rfl)))
                  (try simp only [Act.put, List.setIfInBounds_toArray, List.set_cons_zero, List.set_cons_succ])
                  refine wpAnyH_take (i := 12) (oi := ?o12x36) (v := ?v12x36) ?ho12x36 (by kernel_rfl) (by kernel_rfl) (by kernel_rfl) ?hQ12x36 (Or.inl ⟨?hw12x36, ?hy12x36⟩) (by assumption) ?_
                  case ho12x36 => (simp only [List.getElem?_toArray, List.getElem?_cons_succ, List.getElem?_cons_zero]; try rfl)
                  case hQ12x36 => exact fun _ _ _ h => h
                  case hw12x36 => rfl
                  case hy12x36 => (intro w hSw; (try dsimp only at hSw); go_simp; (first | done | (with_reducible rfl)))
                  (try simp only [Act.put, List.setIfInBounds_toArray, List.set_cons_zero, List.set_cons_succ])
                  refine wpAnyH_take (i := 14) (oi := ?o14x37) (v := ?v14x37) ?ho14x37 (by kernel_rfl) (by kernel_rfl) (by kernel_rfl) ?hQ14x37 (Or.inl ⟨?hw14x37, ?hy14x37⟩) (by assumption) ?_
                  case ho14x37 => (simp only [List.getElem?_toArray, List.getElem?_cons_succ, List.getElem?_cons_zero]; try rfl)
                  case hQ14x37 => exact fun _ _ _ h => h
                  case hw14x37 => rfl
                  case hy14x37 => (intro w hSw; (try dsimp only at hSw); go_simp; (first | done | (with_reducible rfl)))
                  (try simp only [Act.put, List.setIfInBounds_toArray, List.set_cons_zero, List.set_cons_succ])
                  refine wpAnyH_take (i := 15) (oi := ?o15x38) (v := ?v15x38) ?ho15x38 (by kernel_rfl) (by kernel_rfl) (by kernel_rfl) ?hQ15x38 (Or.inl ⟨?hw15x38, ?hy15x38⟩) (by assumption) ?_
                  case ho15x38 => (simp only [List.getElem?_toArray, List.getElem?_cons_succ, List.getElem?_cons_zero]; try rfl)
                  case hQ15x38 => exact fun _ _ _ h => h
                  case hw15x38 => rfl
                  case hy15x38 => (intro w hSw; (try dsimp only at hSw); go_simp; (first | done | (with_reducible rfl)))
                  (try simp only [Act.put, List.setIfInBounds_toArray, List.set_cons_zero, List.set_cons_succ])
                  refine wpAnyH_ready (rs := [13]) (by kernel_rfl) (by simp) ?_
                  refine (AllReadyH.cons (i := 13) (o := ?o13y39) ?ho13y39 (fun K hK => ?_) AllReadyH.nil)
                  case ho13y39 => (simp only [List.getElem?_toArray, List.getElem?_cons_succ, List.getElem?_cons_zero]; try rfl)
                  go_simp
                  go_at_call 12
                  (with_reducible refine (HPQ.out _ bq26).mono ?_)
                  rintro e wq39 ⟨rfl, bs39⟩
                  have bq39 := below_step bq26 bs39
                  clear bs39
                  refine hK.out _ _ (HSS.out _ bq39) (fun _ => ?_)
                  clear hK K
                  (try simp only [Act.put, List.setIfInBounds_toArray, List.set_cons_zero, List.set_cons_succ])
                  refine wpAnyH_ready (rs := [16]) (by kernel_rfl) (by simp) ?_
                  refine (AllReadyH.cons (i := 16) (o := ?o16y40) ?ho16y40 (fun K hK => ?_) AllReadyH.nil)
                  case ho16y40 => (simp only [List.getElem?_toArray, List.getElem?_cons_succ, List.getElem?_cons_zero]; try rfl)
                  go_simp
                  go_at_call 12
                  (with_reducible refine (HQP.out _ bq39).mono ?_)
                  rintro e wq40 ⟨rfl, bs40⟩
                  have bq40 := below_step bq39 bs40
                  clear bs40
                  refine hK.out _ _ (HSS.out _ bq40) (fun _ => ?_)
                  clear hK K
                  (try simp only [Act.put, List.setIfInBounds_toArray, List.set_cons_zero, List.set_cons_succ])
                  refine wpAnyH_take (i := 17) (oi := ?o17x41) (v := ?v17x41) ?ho17x41 (by kernel_rfl) (by kernel_rfl) (by kernel_rfl) ?hQ17x41 (Or.inl ⟨?hw17x41, ?hy17x41⟩) (by assumption) ?_
                  case ho17x41 => (simp only [List.getElem?_toArray, List.getElem?_cons_succ, List.getElem?_cons_zero]; try rfl)
                  case hQ17x41 => exact fun _ _ _ h => h
                  case hw17x41 => rfl
                  case hy17x41 => (intro w hSw; (try dsimp only at hSw); go_simp; (first | done | (with_reducible rfl)))
                  (try simp only [Act.put, List.setIfInBounds_toArray, List.set_cons_zero, List.set_cons_succ])
                  refine wpAnyH_take (i := 18) (oi := ?o18x42) (v := ?v18x42) ?ho18x42 (by kernel_rfl) (by kernel_rfl) (by kernel_rfl) ?hQ18x42 (Or.inl ⟨?hw18x42, ?hy18x42⟩) (by assumption) ?_
                  case ho18x42 => (simp only [List.getElem?_toArray, List.getElem?_cons_succ, List.getElem?_cons_zero]; try rfl)
                  case hQ18x42 => exact fun _ _ _ h => h
                  case hw18x42 => rfl
                  case hy18x42 => (intro w hSw; (try dsimp only at hSw); go_simp; (first | done | (with_reducible rfl)))
                  (try simp only [Act.put, List.setIfInBounds_toArray, List.set_cons_zero, List.set_cons_succ])
                  refine wpAnyH_take (i := 19) (oi := ?o19x43) (v := ?v19x43) ?ho19x43 (by kernel_rfl) (by kernel_rfl) (by kernel_rfl) ?hQ19x43 (Or.inl ⟨?hw19x43, ?hy19x43⟩) (by assumption) ?_
                  case ho19x43 => (simp only [List.getElem?_toArray, List.getElem?_cons_succ, List.getElem?_cons_zero]; try rfl)
                  case hQ19x43 => exact fun _ _ _ h => h
                  case hw19x43 => rfl
                  case hy19x43 => (intro w hSw; (try dsimp only at hSw); go_simp; (first | done | (with_reducible rfl)))
                  (try simp only [Act.put, List.setIfInBounds_toArray, List.set_cons_zero, List.set_cons_succ])
                  refine wpAnyH_ready (rs := [20]) (by kernel_rfl) (by simp) ?_
                  refine (AllReadyH.cons (i := 20) (o := ?o20y44) ?ho20y44 (fun K hK => ?_) AllReadyH.nil)
                  case ho20y44 => (simp only [List.getElem?_toArray, List.getElem?_cons_succ, List.getElem?_cons_zero]; try rfl)
                  go_simp
                  go_at_call 13
                  (with_reducible refine (known _).mono ?_)
                  rintro e wq44 ⟨rfl, bs44⟩
                  have bq44 := below_step bq40 bs44
                  clear bs44
                  refine hK.out _ _ (HSS.out _ bq44) (fun _ => ?_)
                  clear hK K
                  (try simp only [Act.put, List.setIfInBounds_toArray, List.set_cons_zero, List.set_cons_succ])
                  refine wpAnyH_take (i := 21) (oi := ?o21x45) (v := ?v21x45) ?ho21x45 (by kernel_rfl) (by kernel_rfl) (by kernel_rfl) ?hQ21x45 (Or.inl ⟨?hw21x45, ?hy21x45⟩) (by assumption) ?_
                  case ho21x45 => (simp only [List.getElem?_toArray, List.getElem?_cons_succ, List.getElem?_cons_zero]; try rfl)
                  case hQ21x45 => exact fun _ _ _ h => h
                  case hw21x45 => rfl
                  case hy21x45 => (intro w hSw; (try dsimp only at hSw); go_simp; (first | done | (with_reducible rfl)))
                  (try simp only [Act.put, List.setIfInBounds_toArray, List.set_cons_zero, List.set_cons_succ])
                  refine wpAnyH_ready (rs := [22]) (by kernel_rfl) (by simp) ?_
                  refine (AllReadyH.cons (i := 22) (o := ?o22y46) ?ho22y46 (fun K hK => ?_) AllReadyH.nil)
                  case ho22y46 => (simp only [List.getElem?_toArray, List.getElem?_cons_succ, List.getElem?_cons_zero]; try rfl)
                  go_simp
                  refine hK.out _ _ (HSS.out _ bq44) (fun _ => ?_)
                  clear hK K
                  (try simp only [Act.put, List.setIfInBounds_toArray, List.set_cons_zero, List.set_cons_succ])
                  refine wpAnyH_done (by kernel_rfl) ?_ _
                  have HBN := hide bq44
                  go_wp2_with fail
                  go_ret
                  exact ⟨rfl, below_step HB2.out (below_step HBC.out HBN.out)⟩
                · go_simp
                  refine hK.out _ _ (HSS.out _ bq26) (fun _ => ?_)
                  clear hK K
                  (try simp only [Act.put, List.setIfInBounds_toArray, List.set_cons_zero, List.set_cons_succ])
                  refine wpAnyH_ready (rs := [5, 7]) (by kernel_rfl) (by simp) ?_
                  refine (AllReadyH.cons (i := 5) (o := ?o5y47) ?ho5y47 (fun K hK => ?_) (AllReadyH.cons (i := 7) (o := ?o7y47) ?ho7y47 (fun K hK => ?_) AllReadyH.nil))
                  case ho5y47 => (simp only [List.getElem?_toArray, List.getElem?_cons_succ, List.getElem?_cons_zero]; try rfl)
                  case ho7y47 => (simp only [List.getElem?_toArray, List.getElem?_cons_succ, List.getElem?_cons_zero]; try rfl)
                  · go_simp
                    refine hK.out _ _ (HSS.out _ bq26) (fun _ => ?_)
                    clear hK K
                    (try simp only [Act.put, List.setIfInBounds_toArray, List.set_cons_zero, List.set_cons_succ])
                    refine wpAnyH_ready (rs := [7]) (by kernel_rfl) (by simp) ?_
                    refine (AllReadyH.cons (i := 7) (o := ?o7y48) ?ho7y48 (fun K hK => ?_) AllReadyH.nil)
                    case ho7y48 => (simp only [List.getElem?_toArray, List.getElem?_cons_succ, List.getElem?_cons_zero]; try rfl)
                    go_simp
                    refine hK.out _ _ (HSS.out _ bq26) (fun _ => ?_)
                    clear hK K
                    (try simp only [Act.put, List.setIfInBounds_toArray, List.set_cons_zero, List.set_cons_succ])
                    refine wpAnyH_ready (rs := [8]) (by kernel_rfl) (by simp) ?_
                    refine (AllReadyH.cons (i := 8) (o := ?o8y49) ?ho8y49 (fun K hK => ?_) AllReadyH.nil)
                    case ho8y49 => (simp only [List.getElem?_toArray, List.getElem?_cons_succ, List.getElem?_cons_zero]; try rfl)
                    go_simp
                    refine hK.out _ _ (HSS.out _ bq26) (fun _ => ?_)
                    clear hK K
                    (try simp only [Act.put, List.setIfInBounds_toArray, List.set_cons_zero, List.set_cons_succ])
                    refine wpAnyH_take (i := 9) (oi := ?o9x50) (v := ?v9x50) ?ho9x50 (by kernel_rfl) (by kernel_rfl) (by kernel_rfl) ?hQ9x50 (Or.inl ⟨?hw9x50, ?hy9x50⟩) (by assumption) ?_
                    case ho9x50 => (simp only [List.getElem?_toArray, List.getElem?_cons_succ, List.getElem?_cons_zero]; try rfl)
                    case hQ9x50 => exact fun _ _ _ h => h
                    case hw9x50 => rfl
                    case hy9x50 => (intro w hSw; (try dsimp only at hSw); go_simp; (first | done | (with_reducible rfl)))
                    (try simp only [Act.put, List.setIfInBounds_toArray, List.set_cons_zero, List.set_cons_succ])
                    refine wpAnyH_take (i := 10) (oi := ?o10x51) (v := ?v10x51) ?ho10x51 (by kernel_rfl) (by kernel_rfl) (by kernel_rfl) ?hQ10x51 (Or.inl ⟨?hw10x51, ?hy10x51⟩) (by assumption) ?_
                    case ho10x51 => (simp only [List.getElem?_toArray, List.getElem?_cons_succ, List.getElem?_cons_zero]; try rfl)
                    case hQ10x51 => exact fun _ _ _ h => h
                    case hw10x51 => rfl
                    case hy10x51 => (intro w hSw; (try dsimp only at hSw); go_simp; (first | done | (with_reducible rfl)))
                    (try simp only [Act.put, List.setIfInBounds_toArray, List.set_cons_zero, List.set_cons_succ])
                    refine wpAnyH_take (i := 11) (oi := ?o11x52) (v := ?v11x52) ?ho11x52 (by kernel_rfl) (by kernel_rfl) (by kernel_rfl) ?hQ11x52 (Or.inl ⟨?hw11x52, ?hy11x52⟩) (by assumption) ?_
                    case ho11x52 => (simp only [List.getElem?_toArray, List.getElem?_cons_succ, List.getElem?_cons_zero]; try rfl)
                    case hQ11x52 => exact fun _ _ _ h => h
                    case hw11x52 => rfl
                    case hy11x52 => (intro w hSw; (try dsimp only at hSw); go_simp; (first | done | (with_reducible rfl)))
                    (try simp only [Act.put, List.setIfInBounds_toArray, List.set_cons_zero, List.set_cons_succ])
                    refine wpAnyH_take (i := 12) (oi := ?o12x53) (v := ?v12x53) ?ho12x53 (by kernel_rfl) (by kernel_rfl) (by kernel_rfl) ?hQ12x53 (Or.inl ⟨?hw12x53, ?hy12x53⟩) (by assumption) ?_
                    case ho12x53 => (simp only [List.getElem?_toArray, List.getElem?_cons_succ, List.getElem?_cons_zero]; try rfl)
                    case hQ12x53 => exact fun _ _ _ h => h
                    case hw12x53 => rfl
                    case hy12x53 => (intro w hSw; (try dsimp only at hSw); go_simp; (first | done | (with_reducible rfl)))
                    (try simp only [Act.put, List.setIfInBounds_toArray, List.set_cons_zero, List.set_cons_succ])
                    refine wpAnyH_take (i := 14) (oi := ?o14x54) (v := ?v14x54) ?ho14x54 (by kernel_rfl) (by kernel_rfl) (by kernel_rfl) ?hQ14x54 (Or.inl ⟨?hw14x54, ?hy14x54⟩) (by assumption) ?_
                    case ho14x54 => (simp only [List.getElem?_toArray, List.getElem?_cons_succ, List.getElem?_cons_zero]; try rfl)
                    case hQ14x54 => exact fun _ _ _ h => h
                    case hw14x54 => rfl
                    case hy14x54 => (intro w hSw; (try dsimp only at hSw); go_simp; (first | done | (with_reducible rfl)))
                    (try simp only [Act.put, List.setIfInBounds_toArray, List.set_cons_zero, List.set_cons_succ])
                    refine wpAnyH_take (i := 15) (oi := ?o15x55) (v := ?v15x55) ?ho15x55 (by kernel_rfl) (by kernel_rfl) (by kernel_rfl) ?hQ15x55 (Or.inl ⟨?hw15x55, ?hy15x55⟩) (by assumption) ?_
                    case ho15x55 => (simp only [List.getElem?_toArray, List.getElem?_cons_succ, List.getElem?_cons_zero]; try rfl)
                    case hQ15x55 => exact fun _ _ _ h => h
                    case hw15x55 => rfl
                    case hy15x55 => (intro w hSw; (try dsimp only at hSw); go_simp; (first | done | (with_reducible rfl)))
                    (try simp only [Act.put, List.setIfInBounds_toArray, List.set_cons_zero, List.set_cons_succ])
                    refine wpAnyH_ready (rs := [13]) (by kernel_rfl) (by simp) ?_
                    refine (AllReadyH.cons (i := 13) (o := ?o13y56) ?ho13y56 (fun K hK => ?_) AllReadyH.nil)
                    case ho13y56 => (simp only [List.getElem?_toArray, List.getElem?_cons_succ, List.getElem?_cons_zero]; try rfl)
                    go_simp
                    go_at_call 12
                    (with_reducible refine (HPQ.out _ bq26).mono ?_)
                    rintro e wq56 ⟨rfl, bs56⟩
                    have bq56 := below_step bq26 bs56
                    clear bs56
                    refine hK.out _ _ (HSS.out _ bq56) (fun _ => ?_)
                    clear hK K
                    (try simp only [Act.put, List.setIfInBounds_toArray, List.set_cons_zero, List.set_cons_succ])
                    refine wpAnyH_ready (rs := [16]) (by kernel_rfl) (by simp) ?_
                    refine (AllReadyH.cons (i := 16) (o := ?o16y57) ?ho16y57 (fun K hK => ?_) AllReadyH.nil)
                    case ho16y57 => (simp only [List.getElem?_toArray, List.getElem?_cons_succ, List.getElem?_cons_zero]; try rfl)
                    go_simp
                    go_at_call 12
                    (with_reducible refine (HQP.out _ bq56).mono ?_)
                    rintro e wq57 ⟨rfl, bs57⟩
                    have bq57 := below_step bq56 bs57
                    clear bs57
                    refine hK.out _ _ (HSS.out _ bq57) (fun _ => ?_)
                    clear hK K
                    (try simp only [Act.put, List.setIfInBounds_toArray, List.set_cons_zero, List.set_cons_succ])
                    refine wpAnyH_take (i := 17) (oi := ?o17x58) (v := ?v17x58) ?ho17x58 (by kernel_rfl) (by kernel_rfl) (by kernel_rfl) ?hQ17x58 (Or.inl ⟨?hw17x58, ?hy17x58⟩) (by assumption) ?_
                    case ho17x58 => (simp only [List.getElem?_toArray, List.getElem?_cons_succ, List.getElem?_cons_zero]; try rfl)
                    case hQ17x58 => exact fun _ _ _ h => h
                    case hw17x58 => rfl
                    case hy17x58 => (intro w hSw; (try dsimp only at hSw); go_simp; (first | done | (with_reducible rfl)))
                    (try simp only [Act.put, List.setIfInBounds_toArray, List.set_cons_zero, List.set_cons_succ])
                    refine wpAnyH_take (i := 18) (oi := ?o18x59) (v := ?v18x59) ?ho18x59 (by kernel_rfl) (by kernel_rfl) (by kernel_rfl) ?hQ18x59 (Or.inl ⟨?hw18x59, ?hy18x59⟩) (by assumption) ?_
                    case ho18x59 => (simp only [List.getElem?_toArray, List.getElem?_cons_succ, List.getElem?_cons_zero]; try rfl)
                    case hQ18x59 => exact fun _ _ _ h => h
                    case hw18x59 => rfl
                    case hy18x59 => (intro w hSw; (try dsimp only at hSw); go_simp; (first | done | (with_reducible rfl)))
                    (try simp only [Act.put, List.setIfInBounds_toArray, List.set_cons_zero, List.set_cons_succ])
                    refine wpAnyH_take (i := 19) (oi := ?o19x60) (v := ?v19x60) ?ho19x60 (by kernel_rfl) (by kernel_rfl) (by kernel_rfl) ?hQ19x60 (Or.inl ⟨?hw19x60, ?hy19x60⟩) (by assumption) ?_
                    case ho19x60 => (simp only [List.getElem?_toArray, List.getElem?_cons_succ, List.getElem?_cons_zero]; try rfl)
                    case hQ19x60 => exact fun _ _ _ h => h
                    case hw19x60 => rfl
                    case hy19x60 => (intro w hSw; (try dsimp only at hSw); go_simp; (first | done | (with_reducible rfl)))
                    (try simp only [Act.put, List.setIfInBounds_toArray, List.set_cons_zero, List.set_cons_succ])
                    refine wpAnyH_ready (rs := [20]) (by kernel_rfl) (by simp) ?_
                    refine (AllReadyH.cons (i := 20) (o := ?o20y61) ?ho20y61 (fun K hK => ?_) AllReadyH.nil)
                    case ho20y61 => (simp only [List.getElem?_toArray, List.getElem?_cons_succ, List.getElem?_cons_zero]; try rfl)
                    go_simp
                    go_at_call 13
                    (with_reducible refine (known _).mono ?_)
                    rintro e wq61 ⟨rfl, bs61⟩
                    have bq61 := below_step bq57 bs61
                    clear bs61
                    refine hK.out _ _ (HSS.out _ bq61) (fun _ => ?_)
                    clear hK K
                    (try simp only [Act.put, List.setIfInBounds_toArray, List.set_cons_zero, List.set_cons_succ])
                    refine wpAnyH_take (i := 21) (oi := ?o21x62) (v := ?v21x62) ?ho21x62 (by kernel_rfl) (by kernel_rfl) (by kernel_rfl) ?hQ21x62 (Or.inl ⟨?hw21x62, ?hy21x62⟩) (by assumption) ?_
                    case ho21x62 => (simp only [List.getElem?_toArray, List.getElem?_cons_succ, List.getElem?_cons_zero]; try rfl)
                    case hQ21x62 => exact fun _ _ _ h => h
                    case hw21x62 => rfl
                    case hy21x62 => (intro w hSw; (try dsimp only at hSw); go_simp; (first | done | (with_reducible rfl)))
                    (try simp only [Act.put, List.setIfInBounds_toArray, List.set_cons_zero, List.set_cons_succ])
                    refine wpAnyH_ready (rs := [22]) (by kernel_rfl) (by simp) ?_
                    refine (AllReadyH.cons (i := 22) (o := ?o22y63) ?ho22y63 (fun K hK => ?_) AllReadyH.nil)
                    case ho22y63 => (simp only [List.getElem?_toArray, List.getElem?_cons_succ, List.getElem?_cons_zero]; try rfl)
                    go_simp
                    refine hK.out _ _ (HSS.out _ bq61) (fun _ => ?_)
                    clear hK K
                    (try simp only [Act.put, List.setIfInBounds_toArray, List.set_cons_zero, List.set_cons_succ])
                    refine wpAnyH_done (by kernel_rfl) ?_ _
                    have HBN := hide bq61
                    go_wp2_with fail
                    go_ret
                    exact ⟨rfl, below_step HB2.out (below_step HBC.out HBN.out)⟩
                  · go_simp
                    refine hK.out _ _ (HSS.out _ bq26) (fun _ => ?_)
                    clear hK K
                    (try simp only [Act.put, List.setIfInBounds_toArray, List.set_cons_zero, List.set_cons_succ])
                    refine wpAnyH_ready (rs := [5]) (by kernel_rfl) (by simp) ?_
                    refine (AllReadyH.cons (i := 5) (o := ?o5y64) ?ho5y64 (fun K hK => ?_) AllReadyH.nil)
                    case ho5y64 => (simp only [List.getElem?_toArray, List.getElem?_cons_succ, List.getElem?_cons_zero]; try rfl)
                    go_simp
                    refine hK.out _ _ (HSS.out _ bq26) (fun _ => ?_)
                    clear hK K
                    (try simp only [Act.put, List.setIfInBounds_toArray, List.set_cons_zero, List.set_cons_succ])
                    refine wpAnyH_ready (rs := [8]) (by kernel_rfl) (by simp) ?_
                    refine (AllReadyH.cons (i := 8) (o := ?o8y65) ?ho8y65 (fun K hK => ?_) AllReadyH.nil)
                    case ho8y65 => (simp only [List.getElem?_toArray, List.getElem?_cons_succ, List.getElem?_cons_zero]; try rfl)
                    go_simp
                    refine hK.out _ _ (HSS.out _ bq26) (fun _ => ?_)
                    clear hK K
                    (try simp only [Act.put, List.setIfInBounds_toArray, List.set_cons_zero, List.set_cons_succ])
                    refine wpAnyH_take (i := 9) (oi := ?o9x66) (v := ?v9x66) ?ho9x66 (by kernel_rfl) (by kernel_rfl) (by kernel_rfl) ?hQ9x66 (Or.inl ⟨?hw9x66, ?hy9x66⟩) (by assumption) ?_
                    case ho9x66 => (simp only [List.getElem?_toArray, List.getElem?_cons_succ, List.getElem?_cons_zero]; try rfl)
                    case hQ9x66 => exact fun _ _ _ h => h
                    case hw9x66 => rfl
                    case hy9x66 => (intro w hSw; (try dsimp only at hSw); go_simp; (first | done | (with_reducible rfl)))
                    (try simp only [Act.put, List.setIfInBounds_toArray, List.set_cons_zero, List.set_cons_succ])
                    refine wpAnyH_take (i := 10) (oi := ?o10x67) (v := ?v10x67) ?ho10x67 (by kernel_rfl) (by kernel_rfl) (by kernel_rfl) ?hQ10x67 (Or.inl ⟨?hw10x67, ?hy10x67⟩) (by assumption) ?_
                    case ho10x67 => (simp only [List.getElem?_toArray, List.getElem?_cons_succ, List.getElem?_cons_zero]; try rfl)
                    case hQ10x67 => exact fun _ _ _ h => h
                    case hw10x67 => rfl
                    case hy10x67 => (intro w hSw; (try dsimp only at hSw); go_simp; (first | done | (with_reducible rfl)))
                    (try simp only [Act.put, List.setIfInBounds_toArray, List.set_cons_zero, List.set_cons_succ])
                    refine wpAnyH_take (i := 11) (oi := ?o11x68) (v := ?v11x68) ?ho11x68 (by kernel_rfl) (by kernel_rfl) (by kernel_rfl) ?hQ11x68 (Or.inl ⟨?hw11x68, ?hy11x68⟩) (by assumption) ?_
                    case ho11x68 => (simp only [List.getElem?_toArray, List.getElem?_cons_succ, List.getElem?_cons_zero]; try rfl)
                    case hQ11x68 => exact fun _ _ _ h => h
                    case hw11x68 => rfl
                    case hy11x68 => (intro w hSw; (try dsimp only at hSw); go_simp; (first | done | (with_reducible rfl)))
                    (try simp only [Act.put, List.setIfInBounds_toArray, List.set_cons_zero, List.set_cons_succ])
                    refine wpAnyH_take (i := 12) (oi := ?o12x69) (v := ?v12x69) ?ho12x69 (by kernel_rfl) (by kernel_rfl) (by kernel_rfl) ?hQ12x69 (Or.inl ⟨?hw12x69, ?hy12x69⟩) (by assumption) ?_
                    case ho12x69 => (simp only [List.getElem?_toArray, List.getElem?_cons_succ, List.getElem?_cons_zero]; try rfl)
                    case hQ12x69 => exact fun _ _ _ h => h
                    case hw12x69 => rfl
                    case hy12x69 => (intro w hSw; (try dsimp only at hSw); go_simp; (first | done | (with_reducible rfl)))
                    (try simp only [Act.put, List.setIfInBounds_toArray, List.set_cons_zero, List.set_cons_succ])
                    refine wpAnyH_take (i := 14) (oi := ?o14x70) (v := ?v14x70) ?ho14x70 (by kernel_rfl) (by kernel_rfl) (by kernel_rfl) ?hQ14x70 (Or.inl ⟨?hw14x70, ?hy14x70⟩) (by assumption) ?_
                    case ho14x70 => (simp only [List.getElem?_toArray, List.getElem?_cons_succ, List.getElem?_cons_zero]; try rfl)
                    case hQ14x70 => exact fun _ _ _ h => h
                    case hw14x70 => rfl
                    case hy14x70 => (intro w hSw; (try dsimp only at hSw); go_simp; (first | done | (with_reducible rfl)))
                    (try simp only [Act.put, List.setIfInBounds_toArray, List.set_cons_zero, List.set_cons_succ])
                    refine wpAnyH_take (i := 15) (oi := ?o15x71) (v := ?v15x71) ?ho15x71 (by kernel_rfl) (by kernel_rfl) (by kernel_rfl) ?hQ15x71 (Or.inl ⟨?hw15x71, ?hy15x71⟩) (by assumption) ?_
                    case ho15x71 => (simp only [List.getElem?_toArray, List.getElem?_cons_succ, List.getElem?_cons_zero]; try rfl)
                    case hQ15x71 => exact fun _ _ _ h => h
                    case hw15x71 => rfl
                    case hy15x71 => (intro w hSw; (try dsimp only at hSw); go_simp; (first | done | (with_reducible rfl)))
                    (try simp only [Act.put, List.setIfInBounds_toArray, List.set_cons_zero, List.set_cons_succ])
                    refine wpAnyH_ready (rs := [13]) (by kernel_rfl) (by simp) ?_
                    refine (AllReadyH.cons (i := 13) (o := ?o13y72) ?ho13y72 (fun K hK => ?_) AllReadyH.nil)
                    case ho13y72 => (simp only [List.getElem?_toArray, List.getElem?_cons_succ, List.getElem?_cons_zero]; try rfl)
                    go_simp
                    go_at_call 12
                    (with_reducible refine (HPQ.out _ bq26).mono ?_)
                    rintro e wq72 ⟨rfl, bs72⟩
                    have bq72 := below_step bq26 bs72
                    clear bs72
                    refine hK.out _ _ (HSS.out _ bq72) (fun _ => ?_)
                    clear hK K
                    (try simp only [Act.put, List.setIfInBounds_toArray, List.set_cons_zero, List.set_cons_succ])
                    refine wpAnyH_ready (rs := [16]) (by kernel_rfl) (by simp) ?_
                    refine (AllReadyH.cons (i := 16) (o := ?o16y73) ?ho16y73 (fun K hK => ?_) AllReadyH.nil)
                    case ho16y73 => (simp only [List.getElem?_toArray, List.getElem?_cons_succ, List.getElem?_cons_zero]; try rfl)
                    go_simp
                    go_at_call 12
                    (with_reducible refine (HQP.out _ bq72).mono ?_)
                    rintro e wq73 ⟨rfl, bs73⟩
                    have bq73 := below_step bq72 bs73
                    clear bs73
                    refine hK.out _ _ (HSS.out _ bq73) (fun _ => ?_)
                    clear hK K
                    (try simp only [Act.put, List.setIfInBounds_toArray, List.set_cons_zero, List.set_cons_succ])
                    refine wpAnyH_take (i := 17) (oi := ?o17x74) (v := ?v17x74) ?ho17x74 (by kernel_rfl) (by kernel_rfl) (by kernel_rfl) ?hQ17x74 (Or.inl ⟨?hw17x74, ?hy17x74⟩) (by assumption) ?_
                    case ho17x74 => (simp only [List.getElem?_toArray, List.getElem?_cons_succ, List.getElem?_cons_zero]; try rfl)
                    case hQ17x74 => exact fun _ _ _ h => h
                    case hw17x74 => rfl
                    case hy17x74 => (intro w hSw; (try dsimp only at hSw); go_simp; (first | done | (with_reducible rfl)))
                    (try simp only [Act.put, List.setIfInBounds_toArray, List.set_cons_zero, List.set_cons_succ])
                    refine wpAnyH_take (i := 18) (oi := ?o18x75) (v := ?v18x75) ?ho18x75 (by kernel_rfl) (by kernel_rfl) (by kernel_rfl) ?hQ18x75 (Or.inl ⟨?hw18x75, ?hy18x75⟩) (by assumption) ?_
                    case ho18x75 => (simp only [List.getElem?_toArray, List.getElem?_cons_succ, List.getElem?_cons_zero]; try rfl)
                    case hQ18x75 => exact fun _ _ _ h => h
                    case hw18x75 => rfl
                    case hy18x75 => (intro w hSw; (try dsimp only at hSw); go_simp; (first | done | (with_reducible rfl)))
                    (try simp only [Act.put, List.setIfInBounds_toArray, List.set_cons_zero, List.set_cons_succ])
                    refine wpAnyH_take (i := 19) (oi := ?o19x76) (v := ?v19x76) ?ho19x76 (by kernel_rfl) (by kernel_rfl) (by kernel_rfl) ?hQ19x76 (Or.inl ⟨?hw19x76, ?hy19x76⟩) (by assumption) ?_
                    case ho19x76 => (simp only [List.getElem?_toArray, List.getElem?_cons_succ, List.getElem?_cons_zero]; try rfl)
                    case hQ19x76 => exact fun _ _ _ h => h
                    case hw19x76 => rfl
                    case hy19x76 => (intro w hSw; (try dsimp only at hSw); go_simp; (first | done | (with_reducible rfl)))
                    (try simp only [Act.put, List.setIfInBounds_toArray, List.set_cons_zero, List.set_cons_succ])
                    refine wpAnyH_ready (rs := [20]) (by kernel_rfl) (by simp) ?_
                    refine (AllReadyH.cons (i := 20) (o := ?o20y77) ?ho20y77 (fun K hK => ?_) AllReadyH.nil)
                    case ho20y77 => (simp only [List.getElem?_toArray, List.getElem?_cons_succ, List.getElem?_cons_zero]; try rfl)
                    go_simp
                    go_at_call 13
                    (with_reducible refine (known _).mono ?_)
                    rintro e wq77 ⟨rfl, bs77⟩
                    have bq77 := below_step bq73 bs77
                    clear bs77
                    refine hK.out _ _ (HSS.out _ bq77) (fun _ => ?_)
                    clear hK K
                    (try simp only [Act.put, List.setIfInBounds_toArray, List.set_cons_zero, List.set_cons_succ])
                    refine wpAnyH_take (i := 21) (oi := ?o21x78) (v := ?v21x78) ?ho21x78 (by kernel_rfl) (by kernel_rfl) (by kernel_rfl) ?hQ21x78 (Or.inl ⟨?hw21x78, ?hy21x78⟩) (by assumption) ?_
                    case ho21x78 => (simp only [List.getElem?_toArray, List.getElem?_cons_succ, List.getElem?_cons_zero]; try rfl)
                    case hQ21x78 => exact fun _ _ _ h => h
                    case hw21x78 => rfl
                    case hy21x78 => (intro w hSw; (try dsimp only at hSw); go_simp; (first | done | (with_reducible rfl)))
                    (try simp only [Act.put, List.setIfInBounds_toArray, List.set_cons_zero, List.set_cons_succ])
                    refine wpAnyH_ready (rs := [22]) (by kernel_rfl) (by simp) ?_
                    refine (AllReadyH.cons (i := 22) (o := ?o22y79) ?ho22y79 (fun K hK => ?_) AllReadyH.nil)
                    case ho22y79 => (simp only [List.getElem?_toArray, List.getElem?_cons_succ, List.getElem?_cons_zero]; try rfl)
                    go_simp
                    refine hK.out _ _ (HSS.out _ bq77) (fun _ => ?_)
                    clear hK K
                    (try simp only [Act.put, List.setIfInBounds_toArray, List.set_cons_zero, List.set_cons_succ])
                    refine wpAnyH_done (by kernel_rfl) ?_ _
                    have HBN := hide bq77
                    go_wp2_with fail
                    go_ret
                    exact ⟨rfl, below_step HB2.out (below_step HBC.out HBN.out)⟩
end Go.Proofs.Ytaponaemgolmoaa.Tr
